/- nat: DivMod, Bytes, FromBytes; the contracts told by numbers. -/
import Derived.Test.YtokadjfakncdfaaHGA
import Derived.RangeFuncFrom
import Derived.RangeFuncLeaves
import Derived.RangeFuncCalls
import Derived.Shelf.Abstract
import Derived.TacticsInMore
import Derived.OwnWalkIn
import Derived.LoopIn
import Derived.OneCell
import Derived.Laws.Bits64b
import Derived.Shelf.RegionOpen
import Derived.IntWalk
import Derived.RegionIn
import Derived.Deep.AppendLies
section
set_option linter.unusedVariables false
set_option linter.unusedSimpArgs false
namespace Go.Proofs.Ytokadjfakncdfaa
open Go.RowKit Go.Proofs.YtokadjfakncdfaaW.PrintWords Go.Proofs.YtokadjfakncdfaaW.PrintLast Go.Proofs.YtokadjfakncdfaaW.PrintMore
open PR
attribute [local go_sem] Oper.semAt_some
theorem down_calls (A : Option Addr) (m c : Nat) (w : World) :
    Calls Try.prog 68 #[.slice A m c] w fun e w' => e = .returned (.func (.func 109) #[] #[.pointer (some ⟨w.heap.size, 0, none⟩)]) ∧ w' = w.alloc (.cells #[.slice A m c] 31) := by
  go_enter Try.func68, Try.ntmps68
  go_wp2_with fail
  go_ret
  exact ⟨rfl, rfl⟩
/-- What a round keeps: what lay below n₀, and the iterator's own variable. -/
def KpB (n₀ Bs : Nat) (A B : World) : Prop := Below n₀ A B ∧ B.heap[Bs]? = A.heap[Bs]?
theorem KpB.trans {n₀ Bs : Nat} {A B C : World} (h : KpB n₀ Bs A B) (k : KpB n₀ Bs B C) : KpB n₀ Bs A C := ⟨h.1.trans k.1, k.2.trans h.2⟩
/-- The places, the highest first: k of r. -/
def downsF (m r : Nat) (h : r ≤ m) : (k : Nat) → k ≤ r → List (Fin m)
  | 0, _ => []
  | k + 1, hk => downsF m r h k (by omega) ++ [⟨r - 1 - k, by omega⟩]
theorem downsF_length (m r : Nat) (h : r ≤ m) : ∀ (k : Nat) (hk : k ≤ r), (downsF m r h k hk).length = k
  | 0, _ => rfl
  | k + 1, hk => by simp [downsF, downsF_length m r h k]
theorem downsF_map (n : Int) (m r : Nat) (h : r ≤ m) : ∀ (k : Nat) (hk : k ≤ r), (downsF m r h k hk).map (fun x => (x.val, nbit n x.val)) = downs n r k
  | 0, _ => rfl
  | k + 1, hk => by rw [downs_succ, ← downsF_map n m r h k (by omega)]; simp [downsF]
set_option maxRecDepth 100000 in
theorem down1_stops (n : Nat) (hn : 1 ≤ n) (A : Option Addr) (c : Nat) (a : List Int) (w0 w : World) (Bs : Nat) (ha : RL .u64 w0 (.slice A a.length c) a) (da : Dig B64 a) (la : a.length ≤ 1000) (hw : Below w0.heap.size w0 w)
    (hB : w.heap[Bs]? = some (.cells #[.slice A a.length c] 31 (0, 0))) (r : Nat) (hr : LenN (nv B64 a).toNat r) (hrl : r ≤ 64 * a.length) :
    SeqStopsK Fence.wide n Try.prog 109 #[.pointer (some ⟨Bs, 0, none⟩)] (fun x : Fin (64 * a.length) => #[.int .i64 (x.val : Int), .int .u64 (nbit (nv B64 a) x.val)]) (KpB w0.heap.size Bs)
      (fun ys => ys = downsF (64 * a.length) r hrl r (Nat.le_refl _)) (fun _ => True) r w := fun l J Jx W hW hJ hJx hY h0 => by
  have hBW : W.heap[Bs]? = some (.cells #[.slice A a.length c] 31 (0, 0)) := (hW.block _ (lt_of_block hB)).trans hB
  have hc := cell_of_one hBW
  have HW := Aside0.mk (hw.trans (hW.mono hw.size))
  have HA := Aside0.mk ha
  have DA := Aside0.mk da
  have HR := Aside0.mk hr
  have HB := Aside0.mk hBW
  have H0 := Aside0.mk h0
  have HJ := Aside0.mk hJ
  have HY := Aside0.mk hY
  clear ha da hr hBW h0 hJ hY hW hw hJx hB
  refine callsIn_of_wp Try.func109 rfl trivial ?_ rfl
  simp only [Try.ntmps109, List.size_toArray, List.length_cons, List.length_nil, Nat.reduceAdd, Nat.reduceSub, Array.replicate_succ, Array.replicate_zero, List.push_toArray, List.append_toArray, List.nil_append, List.cons_append]
  gi_wp2_with fail
  refine ⟨trivial, (callsIn_wide.2 (bits_calls _ a W (HA.out.below HW.out) DA.out la)).mono ?_⟩
  rintro e W1 ⟨r', rfl, hr', hl, hb⟩
  obtain rfl : r' = r := hr'.uniq HR.out
  have HJ1 := Aside0.mk (HJ.out [] W W1 none H0.out (grown_of_below hb none) (fun _ e => by cases e))
  have HW1 := Aside0.mk (HW.out.trans (hb.mono HW.out.size))
  have HB1 := Aside0.mk ((hb.block _ (lt_of_block HB.out)).trans HB.out)
  clear hr' hb hc HB HW H0
  gi_wp2_with fail
  gi_loopw [3] (fun v3 wr => ∃ (k : Nat) (hk : k ≤ r'), v3 = .int .i64 ((r' : Int) - 1 - k) ∧ Aside0 (J (downsF (64 * a.length) r' hrl k hk) wr) ∧ Aside0 (Below w0.heap.size w0 wr) ∧ Aside0 (wr.heap[Bs]? = some (.cells #[.slice A a.length c] 31 (0, 0)))) (fun v3 _ => (intOf v3 + 1).toNat)
  case atStart => exact ⟨0, by omega, by simp, HJ1, HW1, HB1⟩
  case round =>
    clear HJ1 HW1 HB1
    obtain ⟨k, hk, rfl, HJ1, HW1, HB1⟩ := hrel
    have hc := cell_of_one HB1.out
    by_cases hlt : k < r'
    · obtain ⟨j, hj⟩ : ∃ j : Nat, j = r' - 1 - k := ⟨_, rfl⟩
      have hjm : j < 64 * a.length := by omega
      rw [show (r' : Int) - 1 - k = (j : Int) by omega]
      obtain ⟨fn, tmps, assign, body, hy, hR⟩ := HY.out _ ⟨j, hjm⟩ wr HJ1.out (by rw [downsF_length]; exact hlt)
      have HRR := Aside0.mk hR
      have HJJ := Aside0.mk (And.intro hj hlt)
      dsimp only at hy
      have hb1 : (0 : Int) ≤ j := by omega
      have hjj : j ≤ 64000 := by omega
      clear hR hj hlt
      gi_wp2_with fail
      refine ⟨trivial, (callsIn_wide.2 (bit_calls _ a j wr (HA.out.below HW1.out) DA.out (by omega) (by omega))).mono ?_⟩
      rintro e W3 ⟨rfl, rfl⟩
      gi_wp2_with fail
      refine HRR.out.mono ?_
      rintro e W4 (⟨rfl, hJ4, hk4⟩ | ⟨rfl, hJx4⟩)
      · have HJ4 := Aside0.mk hJ4
        have HW4 := Aside0.mk (HW1.out.trans hk4.1)
        have HB4 := Aside0.mk (hk4.2.trans HB1.out)
        clear hJ4 hk4 hc hy
        gi_wp2_with fail
        go_roundw
        case rel =>
          refine ⟨k + 1, by have := HJJ.out; omega, ?_, ⟨?_⟩, HW4, HB4⟩
          · have := HJJ.out
            exact congrArg (fun z => Value.int .i64 z) (by omega)
          · have h4 := HJ4.out; have e := HJJ.out.1; simp only [e] at h4; exact h4
        case measure => have := HJJ.out; simp [intOf]
      · have HX4 := Aside0.mk hJx4
        clear hJx4 hc hy
        gi_wp2_with fail
        refine bodyPost_ret (results_none rfl _ _ _) rfl ?_
        exact ⟨⟨_, rfl⟩, .inr ⟨_, trivial, HX4.out⟩⟩
    · obtain rfl : k = r' := by omega
      gi_wp2_with fail
      go_end0
      exact ⟨⟨_, rfl⟩, .inl ⟨_, rfl, HJ1.out⟩⟩
end Go.Proofs.Ytokadjfakncdfaa
end
section
set_option linter.unusedVariables false
namespace Go.Proofs.Ytokadjfakncdfaa
/-- One step of the division by b: a bit w of worth 2^i comes. -/
def divStep (b : Int) (s : List Int × Int) (x : Nat × Int) : List Int × Int :=
  if b ≤ 2 * s.2 + x.2 then (s.1.set (x.1 / 64) (bits .or .u64 (s.1.getD (x.1 / 64) 0) ((2 ^ (x.1 % 64) : Nat) : Int)), 2 * s.2 + x.2 - b) else (s.1, 2 * s.2 + x.2)
def divAll (b : Int) (n : Nat) (pre : List (Nat × Int)) : List Int × Int := pre.foldl (divStep b) (List.replicate n 0, 0)
theorem divAll_snoc (b : Int) (n : Nat) (pre : List (Nat × Int)) (x : Nat × Int) : divAll b n (pre ++ [x]) = divStep b (divAll b n pre) x := by simp [divAll]
theorem or_fits (x : Int) (hx : 0 ≤ x ∧ x < B64) (s : Nat) (hs : s < 64) : 0 ≤ bits .or .u64 x ((2 ^ s : Nat) : Int) ∧ bits .or .u64 x ((2 ^ s : Nat) : Int) < B64 := by
  obtain ⟨t, rfl⟩ := Int.eq_ofNat_of_zero_le hx.1
  rw [B64_eq] at hx
  have h1 : (2 : Nat) ^ s < 18446744073709551616 := by
    have := Nat.pow_lt_pow_right (a := 2) (by omega) hs
    omega
  have h2 : t < 18446744073709551616 := by omega
  rw [bits_or_u64_nat t _ h2 h1, B64_eq]
  have h3 : t ||| 2 ^ s < 2 ^ 64 := Nat.or_lt_two_pow (by omega) (by omega)
  omega
/-- What holds of the two along the way. -/
def DivOk (b : Int) (n : Nat) (s : List Int × Int) : Prop := s.1.length = n ∧ Dig B64 s.1 ∧ 0 ≤ s.2 ∧ s.2 < b
theorem DivOk.step {b : Int} {n : Nat} {s : List Int × Int} (h : DivOk b n s) (hb : 0 < b) {x : Nat × Int} (hx : x.2 = 0 ∨ x.2 = 1) : DivOk b n (divStep b s x) := by
  obtain ⟨h1, h2, h3, h4⟩ := h
  unfold divStep
  split
  · exact ⟨by simp [h1], h2.set (or_fits _ (h2.getD B64_pos _) _ (Nat.mod_lt _ (by omega))) _, by dsimp only; omega, by dsimp only; omega⟩
  · exact ⟨h1, h2, by dsimp only; omega, by dsimp only; omega⟩
theorem DivOk.all {b : Int} (hb : 0 < b) (n : Nat) (pre : List (Nat × Int)) (h : ∀ x ∈ pre, x.2 = 0 ∨ x.2 = 1) : DivOk b n (divAll b n pre) := by
  unfold divAll
  have : ∀ (pre : List (Nat × Int)) (s : List Int × Int), (∀ x ∈ pre, x.2 = 0 ∨ x.2 = 1) → DivOk b n s → DivOk b n (pre.foldl (divStep b) s) := by
    intro pre
    induction pre with
    | nil => intro s _ hs; exact hs
    | cons x pre ih => intro s hp hs; exact ih _ (fun y hy => hp y (List.mem_cons_of_mem _ hy)) (hs.step hb (hp x List.mem_cons_self))
  exact this pre _ h ⟨by simp, Dig.replicate B64_pos _, by simp, hb⟩
theorem nbit_cases (n : Int) (i : Nat) : nbit n i = 0 ∨ nbit n i = 1 := by unfold nbit; omega
/-- A word of a number that 2^(i+1) divides, and a bit of worth 2^i more. -/
theorem or_adds {q : List Int} (dq : Dig B64 q) (i : Nat) (hi : i / 64 < q.length) (Z : Int) (hZ : 0 ≤ Z) (hq : nv B64 q = ((2 ^ (i + 1) : Nat) : Int) * Z) :
    nv B64 (q.set (i / 64) (bits .or .u64 (q.getD (i / 64) 0) ((2 ^ (i % 64) : Nat) : Int))) = nv B64 q + ((2 ^ i : Nat) : Int) := by
  have h1 := nv_split B64 q (i / 64) (by omega)
  have h2 := nv_lt B64_pos (dq.take (i / 64))
  have h3 := nv_nonneg B64_pos (dq.take (i / 64))
  rw [List.length_take, Nat.min_eq_left (by omega)] at h2
  have e1 : q.drop (i / 64) = q.getD (i / 64) 0 :: q.drop (i / 64 + 1) := by
    rw [List.drop_eq_getElem_cons hi, List.getD_eq_getElem?_getD, List.getElem?_eq_getElem hi]; rfl
  rw [e1, nv_cons] at h1
  have h4 := dq.getD B64_pos (i / 64)
  have h5 := nv_nonneg B64_pos (dq.drop (i / 64 + 1))
  obtain ⟨t, ht⟩ := Int.eq_ofNat_of_zero_le h4.1
  obtain ⟨u, hu⟩ := Int.eq_ofNat_of_zero_le h5
  obtain ⟨lo, hlo⟩ := Int.eq_ofNat_of_zero_le h3
  obtain ⟨z, rfl⟩ := Int.eq_ofNat_of_zero_le hZ
  rw [ht, hu, hlo] at h1
  rw [hlo, B64_pow] at h2
  rw [ht] at h4
  rw [hq, B64_pow, B64_eq] at h1
  have h6 : 2 ^ (i + 1) * z = lo + 2 ^ (64 * (i / 64)) * (t + 18446744073709551616 * u) := by
    have : ((2 ^ (i + 1) * z : Nat) : Int) = ((lo + 2 ^ (64 * (i / 64)) * (t + 18446744073709551616 * u) : Nat) : Int) := by
      rw [Int.natCast_mul, h1]; simp [Int.natCast_add, Int.natCast_mul]
    exact Int.ofNat_inj.1 this
  have e3 : (2 : Nat) ^ (i + 1) = 2 ^ (64 * (i / 64)) * 2 ^ (i % 64 + 1) := by rw [← Nat.pow_add]; congr 1; omega
  have h7 : t + 18446744073709551616 * u = 2 ^ (i % 64 + 1) * z := by
    have hlo0 : lo / 2 ^ (64 * (i / 64)) = 0 := Nat.div_eq_of_lt (Int.ofNat_lt.1 h2)
    have := congrArg (· / 2 ^ (64 * (i / 64))) h6
    simp only [Nat.add_mul_div_left _ _ (Nat.two_pow_pos _), hlo0, Nat.zero_add] at this
    rw [← this, e3, Nat.mul_assoc, Nat.mul_div_cancel_left _ (Nat.two_pow_pos _)]
  have e4 : (18446744073709551616 : Nat) = 2 ^ (i % 64 + 1) * 2 ^ (63 - i % 64) := by
    rw [← Nat.pow_add, show i % 64 + 1 + (63 - i % 64) = 64 by omega]
  have h8 : 2 ^ (i % 64 + 1) ∣ t := by
    have d1 : 2 ^ (i % 64 + 1) ∣ t + 18446744073709551616 * u := ⟨z, h7⟩
    have d2 : 2 ^ (i % 64 + 1) ∣ 18446744073709551616 * u := by rw [e4, Nat.mul_assoc]; exact Nat.dvd_mul_right _ _
    exact (Nat.dvd_add_left d2).1 d1
  obtain ⟨c, rfl⟩ := h8
  have h9 : (2 : Nat) ^ (i % 64) < 18446744073709551616 := by
    have := Nat.pow_lt_pow_right (a := 2) (by omega) (show i % 64 < 64 by omega)
    omega
  have h10 : 2 ^ (i % 64 + 1) * c < 18446744073709551616 := by have := h4.2; rw [B64_eq] at this; exact Int.ofNat_lt.1 this
  have h11 : 2 ^ (i % 64 + 1) * c ||| 2 ^ (i % 64) = 2 ^ (i % 64 + 1) * c + 2 ^ (i % 64) :=
    (Nat.two_pow_add_eq_or_of_lt (Nat.pow_lt_pow_right (by omega) (by omega)) c).symm
  rw [ht, bits_or_u64_nat _ _ h10 h9, h11, nv_set _ _ _ _ hi, ht, Int.natCast_add]
  rw [show ((2 ^ (i % 64 + 1) * c : Nat) : Int) + ((2 ^ (i % 64) : Nat) : Int) - ((2 ^ (i % 64 + 1) * c : Nat) : Int) = ((2 ^ (i % 64) : Nat) : Int) by omega]
  rw [B64_pow, ← Int.natCast_mul, ← Nat.pow_add, show 64 * (i / 64) + i % 64 = i by omega]
/-- Behind k of N bits. -/
theorem divAll_inv {a b : Int} (ha : 0 ≤ a) (hb : 0 < b) (n N : Nat) (hN : N ≤ 64 * n) (hlt : a < ((2 ^ N : Nat) : Int)) : ∀ k, k ≤ N →
    nv B64 (divAll b n (downs a N k)).1 = ((2 ^ (N - k) : Nat) : Int) * (a / ((2 ^ (N - k) : Nat) : Int) / b) ∧ (divAll b n (downs a N k)).2 = a / ((2 ^ (N - k) : Nat) : Int) % b := by
  intro k
  induction k with
  | zero =>
    intro _
    have e : a / ((2 ^ (N - 0) : Nat) : Int) = 0 := Int.ediv_eq_zero_of_lt ha hlt
    rw [e]
    simp [downs, divAll, nv_replicate]
  | succ k ih =>
    intro hk
    obtain ⟨i1, i2⟩ := ih (by omega)
    have hok := DivOk.all hb n (downs a N k) (fun x hx => by
      simp only [downs, List.mem_map] at hx
      obtain ⟨j, _, rfl⟩ := hx
      exact nbit_cases _ _)
    rw [downs_succ, divAll_snoc]
    obtain ⟨m, hm⟩ : ∃ m, N - k = m + 1 := ⟨N - k - 1, by omega⟩
    have hm2 : N - (k + 1) = m := by omega
    have hm3 : N - 1 - k = m := by omega
    rw [hm] at i1 i2
    rw [hm2, hm3]
    obtain ⟨p, hp⟩ : ∃ p, a / ((2 ^ (m + 1) : Nat) : Int) = p := ⟨_, rfl⟩
    have hp0 : 0 ≤ p := by rw [← hp]; exact Int.ediv_nonneg ha (Int.natCast_nonneg _)
    rw [hp] at i1 i2
    have hbit : a / ((2 ^ m : Nat) : Int) = 2 * p + nbit a m := by
      unfold nbit
      have e : a / ((2 ^ (m + 1) : Nat) : Int) = a / ((2 ^ m : Nat) : Int) / 2 := by
        rw [Nat.pow_succ, Int.natCast_mul, Int.ediv_ediv_of_nonneg (Int.natCast_nonneg _)]; rfl
      rw [← hp, e]
      omega
    rw [hbit]
    obtain ⟨w, hw⟩ : ∃ w, nbit a m = w := ⟨_, rfl⟩
    have hw2 : w = 0 ∨ w = 1 := hw ▸ nbit_cases a m
    rw [hw]
    have hQ := Int.mul_ediv_add_emod p b
    obtain ⟨Q, hQ'⟩ : ∃ Q, p / b = Q := ⟨_, rfl⟩
    have hQ0 : 0 ≤ Q := by rw [← hQ']; exact Int.ediv_nonneg hp0 (by omega)
    obtain ⟨R, hR⟩ : ∃ R, p % b = R := ⟨_, rfl⟩
    have hR0 : 0 ≤ R := by rw [← hR]; exact Int.emod_nonneg _ (by omega)
    have hR1 : R < b := by rw [← hR]; exact Int.emod_lt_of_pos _ hb
    rw [hQ', hR] at hQ
    rw [hQ'] at i1
    rw [hR] at i2
    have hsum : 2 * p + w = b * (2 * Q) + (2 * R + w) := by rw [← hQ]; grind
    unfold divStep
    dsimp only
    rw [i2]
    by_cases hc : b ≤ 2 * R + w
    · rw [if_pos hc]
      have e1 : 2 * p + w = b * (2 * Q + 1) + (2 * R + w - b) := by rw [hsum]; grind
      have eq1 : (2 * p + w) / b = 2 * Q + 1 := by
        rw [e1, Int.add_comm, Int.add_mul_ediv_left _ _ (by omega), Int.ediv_eq_zero_of_lt (by omega) (by omega)]; omega
      have eq2 : (2 * p + w) % b = 2 * R + w - b := by
        rw [e1, Int.add_comm, Int.add_mul_emod_self_left, Int.emod_eq_of_lt (by omega) (by omega)]
      refine ⟨?_, eq2.symm⟩
      dsimp only
      rw [or_adds hok.2.1 m (by rw [hok.1]; omega) Q hQ0 i1, i1, eq1, Nat.pow_succ, Int.natCast_mul]
      grind
    · rw [if_neg hc]
      have eq1 : (2 * p + w) / b = 2 * Q := by
        rw [hsum, Int.add_comm, Int.add_mul_ediv_left _ _ (by omega), Int.ediv_eq_zero_of_lt (by omega) (by omega)]; omega
      have eq2 : (2 * p + w) % b = 2 * R + w := by
        rw [hsum, Int.add_comm, Int.add_mul_emod_self_left, Int.emod_eq_of_lt (by omega) (by omega)]
      refine ⟨?_, eq2.symm⟩
      dsimp only
      rw [i1, eq1, Nat.pow_succ, Int.natCast_mul]
      grind
theorem divAll_done {a b : Int} (ha : 0 ≤ a) (hb : 0 < b) (n N : Nat) (hN : N ≤ 64 * n) (hlt : a < ((2 ^ N : Nat) : Int)) :
    nv B64 (divAll b n (downs a N N)).1 = a / b ∧ (divAll b n (downs a N N)).2 = a % b := by
  have := divAll_inv ha hb n N hN hlt N (Nat.le_refl _)
  rw [Nat.sub_self] at this
  simpa using this
end Go.Proofs.Ytokadjfakncdfaa
end
section
set_option linter.unusedVariables false
set_option linter.unusedSimpArgs false
namespace Go.Proofs.Ytokadjfakncdfaa
open Go.RowKit Go.Proofs.YtokadjfakncdfaaW.PrintWords Go.Proofs.YtokadjfakncdfaaW.PrintLast Go.Proofs.YtokadjfakncdfaaW.PrintMore
attribute [local go_sem] Oper.semAt_some
/-- What the region leaves behind, whatever else the frame holds. -/
def Reg14 (Q : Exit → Act → World → Prop) (W : World) : Prop := ∀ tmps, Q .normal { tmps := tmps, defers := [] } W
set_option maxRecDepth 100000 in
set_option maxHeartbeats 4000000 in
theorem reg14 (l n : Nat) (Q : Exit → Act → World → Prop) (W : World) (g7 gq iv J S m c : Nat) (qv x : Int) (u0 u1 u2 u3 u4 u5 u6 u8 u10 u11 u12 u13 u14 u15 u16 u17 u18 u19 u20 u21 u22 u23 u24 u25 u26 u27 u28 u29 u30 u31 u32 u33 u34 u35 u36 u37 u38 u39 u40 u41 u42 u43 u44 u45 u46 u47 u48 u49 u50 u51 u52 u53 u54 : Value)
    (h7 : W.cell? ⟨g7, 0, none⟩ = some (.slice (some ⟨gq, 0, none⟩) m c)) (hc : W.cell? ⟨gq, J, none⟩ = some (.int .u64 qv)) (hf : W.frozen? ⟨gq, J, none⟩ = false)
    (hi1 : (J : Int) < (m : Int)) (hi3 : (0 : Int) ≤ (J : Int)) (hd1 : Int.tdiv (iv : Int) 64 = (J : Int)) (hd2 : IntKind.i64.wrap (J : Int) = (J : Int)) (hd3 : Int.tmod (iv : Int) 64 = (S : Int)) (hd4 : IntKind.i64.wrap (S : Int) = (S : Int)) (hd5 : (0 : Int) ≤ (S : Int)) (hd6 : S < 64)
    (hx : bits .or .u64 qv (IntKind.u64.wrap (2 ^ S)) = x) (hmx : Try.prog.follows .mixedOrders = true)
    (hQ : Reg14 Q (W.setCell ⟨gq, J, none⟩ (.int .u64 x)).drew) :
    (Code.region 14 (opsOf Try.f25 14) true).wpIn (Fence.wide.inRound l) n Try.prog Q { tmps := #[u0, u1, u2, u3, u4, u5, u6, .pointer (some ⟨g7, 0, none⟩), u8, .int .i64 (iv : Int), u10, u11, u12, u13, u14, u15, u16, u17, u18, u19, u20, u21, u22, u23, u24, u25, u26, u27, u28, u29, u30, u31, u32, u33, u34, u35, u36, u37, u38, u39, u40, u41, u42, u43, u44, u45, u46, u47, u48, u49, u50, u51, u52, u53, u54], defers := [] } W := by
  have HX := Aside0.mk hx
  clear hx
  simp only [opsOf, Try.f25, opsIn, Option.bind_some, Option.getD_some, Nat.reduceEqDiff, Nat.reduceBEq, ↓reduceIte, Bool.false_eq_true, if_false]
  have HQ := Aside0.mk hQ
  clear hQ
  gi_region_with_o (fail)
  all_goals (rw [HX.out]; exact HQ.out _)
end Go.Proofs.Ytokadjfakncdfaa
end
section
set_option linter.unusedVariables false
set_option linter.unusedSimpArgs false
namespace Go.Proofs.Ytokadjfakncdfaa
open Go.RowKit Go.Proofs.YtokadjfakncdfaaW.PrintWords Go.Proofs.YtokadjfakncdfaaW.PrintLast Go.Proofs.YtokadjfakncdfaaW.PrintMore
open PR
attribute [local go_sem] Oper.semAt_some
theorem long2_at (A1 A2 : Option Addr) (n1 n2 c1 c2 g : Nat) (W : World) (hb : W.heap[g]? = some (.cells #[.slice A1 n1 c1, .slice A2 n2 c2] 31 (0, 0))) (h1 : n1 ≤ 1000000) (h2 : n2 ≤ 1000000) :
    Calls Try.prog 62 #[.slice (some ⟨g, 0, none⟩) 2 2] W fun e w' => e = .returned (.bool (decide (80 < n1 ∨ 80 < n2))) ∧ w' = W := by
  refine (long_calls ⟨g, 0, none⟩ 2 [(A1, n1, c1), (A2, n2, c2)] _ ?_ (by simp)).mono ?_
  · intro i hi
    have : i = 0 ∨ i = 1 := by simp at hi; omega
    rcases this with rfl | rfl
    · exact ⟨World.news_of_block hb 0 _ rfl, by simp; omega⟩
    · exact ⟨World.news_of_block hb 1 _ rfl, by simp; omega⟩
  · rintro e w' ⟨rfl, rfl⟩
    exact ⟨by simp [anyLong], rfl⟩
theorem heap_alloc_old {w : World} {k : Nat} {o o' : Obj} (h : w.heap[k]? = some o) : (w.alloc o').heap[k]? = some o := (Below.heap_alloc w o' k (lt_of_block h)).trans h
theorem RO.own {k : IntKind} {e base : Nat} {ok : Nat → Prop} {W W' : World} {v : Value} {xs : List Int} (h : Kd.R (Kd.int k) e W base ok v xs) {row : Option Nat} (hg : W.grownBy W' row)
    (hr : ∀ r, row = some r → ∃ o : Obj, W.heap[r]? = some o ∧ o.isCells = false) : Kd.R (Kd.int k) e W' base ok v xs :=
  Kd.R_grown2 h rfl hg (fun j e h' => by
    obtain ⟨o, ho, hc⟩ := hr j e
    obtain ⟨cells, hcells⟩ := Kd.R_typed h j h'.symm
    rw [hcells] at ho
    cases ho
    simp [Obj.isCells] at hc)
theorem blk_own {W W' : World} {j : Nat} {cs : Array Value} {t : TypeId} {fr : Nat × Nat} (h : W.heap[j]? = some (.cells cs t fr)) {row : Option Nat} (hg : W.grownBy W' row)
    (hr : ∀ r, row = some r → ∃ o : Obj, W.heap[r]? = some o ∧ o.isCells = false) : W'.heap[j]? = some (.cells cs t fr) := (grownBy_keeps_cells hg hr h rfl).trans h
/-- A region that is left by its end alone. -/
def strict (Q : Exit → Act → World → Prop) : Exit → Act → World → Prop
  | .normal, a, w => Q .normal a w
  | _, _, _ => False
theorem wpIn_strict {F : Fence} {n : Nat} {P : Program} {c : Code} {Q : Exit → Act → World → Prop} {a : Act} {w : World} (h : c.wpIn F n P (strict Q) a w) : c.wpIn F n P Q a w :=
  wpIn_mono h (fun e a w hq => by cases e <;> first | exact hq | exact hq.elim)
theorem lenN_of {a : List Int} (da : Dig B64 a) : ∃ r : Nat, LenN (nv B64 a).toNat r ∧ r ≤ 64 * a.length := by
  have h1 := nv_lt B64_pos da
  have h2 := nv_nonneg B64_pos da
  rw [B64_pow] at h1
  obtain ⟨n, hn⟩ := Int.eq_ofNat_of_zero_le h2
  rw [hn] at h1 ⊢
  have h3 : n < 2 ^ (64 * a.length) := Int.ofNat_lt.1 h1
  rw [Int.toNat_natCast]
  by_cases h0 : n = 0
  · exact ⟨0, by rw [h0]; exact ⟨by simp, .inl rfl⟩, by omega⟩
  · refine ⟨n.log2 + 1, ⟨Nat.lt_log2_self, .inr (Nat.log2_self_le h0)⟩, ?_⟩
    have := Nat.log2_lt h0 |>.2 h3
    omega
/-- The division's state behind the bits 'pre'. -/
def divSt (a b : List Int) (pre : List (Fin (64 * a.length))) : List Int × Int := divAll (nv B64 b) a.length (pre.map fun x => (x.val, nbit (nv B64 a) x.val))
def DivI (w : World) (a b : List Int) (A' : Option Addr) (cb gq : Nat) (pre : List (Fin (64 * a.length))) (W : World) : Prop :=
  ∃ vr ys, RO .u64 30 W w.heap.size (.slice (some ⟨gq, 0, none⟩) a.length a.length) (divSt a b pre).1 ∧ W.heap[gq + 1]? = some (.cells #[.slice (some ⟨gq, 0, none⟩) a.length a.length] 31 (0, 0)) ∧
    W.heap[gq + 1 + 1]? = some (.cells #[vr] 31 (0, 0)) ∧ W.heap[w.heap.size]? = some (.cells #[.slice A' b.length cb] 31 (0, 0)) ∧ RO .u64 30 W (gq + 4) vr ys ∧ Canon B64 ys ∧ nv B64 ys = (divSt a b pre).2 ∧ Below w.heap.size w W ∧ gq + 4 ≤ W.heap.size
theorem DivI.own {w : World} {a b : List Int} {A' : Option Addr} {cb gq B : Nat} (hB : w.heap.size ≤ B) : OwnFrom B (DivI w a b A' cb gq) := by
  rintro pre W W' row ⟨vr, ys, h1, h2, h3, h4, h5, h6, h7, h8, h9⟩ hg hr
  have hr' : ∀ r, row = some r → ∃ o : Obj, W.heap[r]? = some o ∧ o.isCells = false := fun r e => (hr r e).2
  exact ⟨vr, ys, RO.own h1 hg hr', blk_own h2 hg hr', blk_own h3 hg hr', blk_own h4 hg hr', RO.own h5 hg hr', h6, h7, h8.grown hg h8.size (fun k e => Nat.le_trans hB (hr k e).1), Nat.le_trans h9 hg.size⟩
/-- Within a round: what lies where. -/
structure DSt (w W0 : World) (la : Nat) (vb : Value) (gq : Nat) (q : List Int) (W : World) (vr : Value) (ys : List Int) : Prop where
  q : RO .u64 30 W w.heap.size (.slice (some ⟨gq, 0, none⟩) la la) q
  b7 : W.heap[gq + 1]? = some (.cells #[.slice (some ⟨gq, 0, none⟩) la la] 31 (0, 0))
  b8 : W.heap[gq + 1 + 1]? = some (.cells #[vr] 31 (0, 0))
  b3 : W.heap[w.heap.size]? = some (.cells #[vb] 31 (0, 0))
  r : RO .u64 30 W (gq + 4) vr ys
  canon : Canon B64 ys
  below : Below w.heap.size w W
  size : gq + 4 ≤ W.heap.size
  keeps : KeepsOthers W0 W
  bs : W.heap[gq + 1 + 1 + 1]? = W0.heap[gq + 1 + 1 + 1]?
  hq : w.heap.size < gq
  kb : Below w.heap.size W0 W
theorem DSt.step {w W0 : World} {la gq : Nat} {vb vr : Value} {q ys : List Int} {W W' : World} (h : DSt w W0 la vb gq q W vr ys) (hb : Below W.heap.size W W') : DSt w W0 la vb gq q W' vr ys :=
  ⟨Kd.R_below h.q hb, (hb.block _ (lt_of_block h.b7)).trans h.b7, (hb.block _ (lt_of_block h.b8)).trans h.b8, (hb.block _ (lt_of_block h.b3)).trans h.b3, Kd.R_below h.r hb, h.canon, h.below.trans (hb.mono h.below.size), Nat.le_trans h.size hb.size,
    h.keeps.trans (KeepsOthers.of_grownBy (grown_of_below hb none) (fun _ _ e => by cases e)), (hb.block _ (by have := h.size; omega)).trans h.bs, h.hq, h.kb.trans (hb.mono h.below.size)⟩
theorem DSt.store {w W0 : World} {la gq : Nat} {vb vr v : Value} {q ys zs : List Int} {W : World} (h : DSt w W0 la vb gq q W vr ys) (hn : RO .u64 30 W (gq + 4) v zs) (hc : Canon B64 zs) :
    DSt w W0 la vb gq q (W.setCell ⟨gq + 1 + 1, 0, none⟩ v) v zs :=
  ⟨Kd.R_mono (Kd.R_far (Kd.R_tight rfl h.q) (fun k hk => by
      have e : k = gq := by simpa [Value.ownBlock] using hk
      show k ≠ gq + 1 + 1
      omega) _) (fun k hk => Kd.R_base h.q k hk.symm),
    (Below.heap_setCell W _ v _ (by show gq + 1 ≠ gq + 1 + 1; omega)).trans h.b7, one_setCell h.b8, (Below.heap_setCell W _ v _ (by have := h.hq; show w.heap.size ≠ gq + 1 + 1; omega)).trans h.b3,
    Kd.R_far hn (fun k hk => by show k ≠ gq + 1 + 1; omega) _, hc, h.below.setCell (by have := h.hq; show w.heap.size ≤ gq + 1 + 1; omega) _, by rw [World.size_setCell]; exact h.size,
    h.keeps.trans (KeepsOthers.setCell _ _ _), (Below.heap_setCell W _ v _ (by show gq + 1 + 1 + 1 ≠ gq + 1 + 1; omega)).trans h.bs, h.hq, h.kb.setCell (by have := h.hq; show w.heap.size ≤ gq + 1 + 1; omega) _⟩
theorem DSt.setq {w W0 : World} {la gq : Nat} {vb vr : Value} {q ys : List Int} {W : World} (h : DSt w W0 la vb gq q W vr ys) (j : Nat) (x : Int) :
    DSt w W0 la vb gq (q.set j x) (W.setCell ⟨gq, j, none⟩ (.int .u64 x)) vr ys :=
  ⟨by have := Kd.R_putn h.q (j : Int) x
      rw [Int.toNat_natCast] at this
      exact this,
    (Below.heap_setCell W _ _ _ (by show gq + 1 ≠ gq; omega)).trans h.b7, (Below.heap_setCell W _ _ _ (by show gq + 1 + 1 ≠ gq; omega)).trans h.b8, (Below.heap_setCell W _ _ _ (by have := h.hq; show w.heap.size ≠ gq; omega)).trans h.b3,
    Kd.R_far h.r (fun k hk => by show k ≠ gq; omega) _, h.canon, h.below.setCell (by have := h.hq; show w.heap.size ≤ gq; omega) _, by rw [World.size_setCell]; exact h.size,
    h.keeps.trans (KeepsOthers.setCell _ _ _), (Below.heap_setCell W _ _ _ (by show gq + 1 + 1 + 1 ≠ gq; omega)).trans h.bs, h.hq, h.kb.setCell (by have := h.hq; show w.heap.size ≤ gq; omega) _⟩
theorem RL.lit1 {k : IntKind} {e : Nat} {W : World} {g : Nat} {x : Int} (h : W.heap[g]? = some (.cells #[.int k x] e (0, 0))) : RL k W (.slice (some ⟨g, 0, none⟩) 1 1) [x] := by
  refine ⟨some ⟨g, 0, none⟩, 1, rfl, by simp, rfl, by simp, fun _ => ⟨_, rfl, fun j p hj => ?_⟩⟩
  have hj0 : j = 0 := by
    rcases Nat.eq_zero_or_pos j with h0 | h0
    · exact h0
    · rw [List.getElem?_eq_none (by simp; omega)] at hj; cases hj
  subst hj0
  refine ⟨[.int k p], rfl, rfl, fun i u hu => ?_⟩
  have : p = x := by simpa using hj.symm
  subst this
  have := World.news_of_block h i u (by simpa using hu)
  simpa [Kd.int, Kd.scalar] using this
theorem Num.own {W W' : World} {v : Value} {n : Int} {B : Nat} (h : Num W W' v n) (hB : B ≤ W.heap.size) : ∃ ys, RO .u64 30 W' B v ys ∧ Canon B64 ys ∧ nv B64 ys = n := by
  obtain ⟨ys, ho, hc, hn, _⟩ := h
  exact ⟨ys, Kd.R_mono (Kd.R_lower ho hB) (fun b hb => Nat.le_trans hB hb), hc, hn⟩
set_option maxRecDepth 100000 in
set_option maxHeartbeats 4000000 in
theorem divmod_ok (va vb : Value) (a b : List Int) (w : World) (ha : RL .u64 w va a) (hb : RL .u64 w vb b) (da : Dig B64 a) (db : Dig B64 b) (la : a.length ≤ 80) (lb : b.length ≤ 80) (hpos : 0 < nv B64 b) :
    Calls Try.prog 25 #[va, vb] w fun e w' => ∃ vq vr, e = .returned (.tuple #[vq, vr, .int .i64 0]) ∧ Num w w' vq (nv B64 a / nv B64 b) ∧ Num w w' vr (nv B64 a % nv B64 b) ∧ Below w.heap.size w w' := by
  obtain ⟨A, ca, rfl, hca, hCa⟩ := ha
  obtain ⟨A', cb, rfl, hcb, hCb⟩ := hb
  have HA := Aside0.mk (show RL .u64 w (.slice A a.length ca) a from ⟨A, ca, rfl, hca, hCa⟩)
  have HB := Aside0.mk (show RL .u64 w (.slice A' b.length cb) b from ⟨A', cb, rfl, hcb, hCb⟩)
  have DA := Aside0.mk da
  have DB := Aside0.mk db
  have HP := Aside0.mk hpos
  clear hCa hCb da db hca hcb hpos
  have hlong : decide (80 < a.length ∨ 80 < b.length) = false := by simp; omega
  refine (callsIn_wide (n := 5)).1 ?_
  refine callsIn_of_wp_marks Try.func25 rfl trivial ?_ rfl
  simp only [Try.ntmps25, List.size_toArray, List.length_cons, List.length_nil, Nat.reduceAdd, Nat.reduceSub, Array.replicate_succ, Array.replicate_zero, List.push_toArray, List.append_toArray, List.nil_append, List.cons_append]
  gi_wp2_with fail
  refine ⟨trivial, (callsIn_wide.2 (long2_at A A' a.length b.length ca cb (w.heap.size + 1) _ (by have := heap_alloc_new (w.alloc (.cells #[.slice A' b.length cb] 31)) (.cells #[.slice A a.length ca, .slice A' b.length cb] 31); simpa using this) (by omega) (by omega))).mono ?_⟩
  rintro e w1 ⟨rfl, hw1⟩
  have HW1 := Aside0.mk (show Below w.heap.size w w1 by rw [hw1]; exact below_alloc (below_alloc1 _ _) _)
  have HB1 := Aside0.mk (show w1.heap[w.heap.size]? = some (.cells #[.slice A' b.length cb] 31 (0, 0)) by rw [hw1]; exact heap_alloc_old (heap_alloc_new w _))
  clear hw1
  have hc3 := cell_of_one HB1.out
  gi_wp2_with fail
  refine ⟨trivial, (callsIn_wide.2 (of_calls _ b _ (HB.out.below HW1.out) DB.out (by omega))).mono ?_⟩
  rintro e w2 ⟨v1, y, rfl, o1, c1, n1, l1, b1⟩
  have hy : y ≠ [] := by
    intro e
    rw [e] at n1
    have := HP.out
    rw [← n1] at this
    simp [nv] at this
  obtain ⟨A1, k1, rfl⟩ := Kd.R_slice o1
  have t0 : ((y.length : Int) == 0) = false := by rw [beq_eq_false_iff_ne]; have := List.length_pos_iff.2 hy; omega
  have HW2 := Aside0.mk (HW1.out.trans (b1.mono HW1.out.size))
  have HB2 := Aside0.mk ((b1.block _ (lt_of_block HB1.out)).trans HB1.out)
  clear o1 c1 n1 l1 b1 hy hc3 HW1 HB1
  have hmk := print_make (P := Try.prog) 31 30 .u64 8 Try.underlying31 info30 (by omega) a.length (by omega)
  gi_wp2_with fail
  clear t0 hmk
  obtain ⟨gq, hgq⟩ : ∃ gq, w2.heap.size = gq := ⟨_, rfl⟩
  refine ⟨trivial, (callsIn_wide.2 (down_calls A a.length ca _)).mono ?_⟩
  rintro e w4 ⟨rfl, hw4⟩
  have E0 : RO .u64 30 w4 w.heap.size (.slice (some ⟨gq, 0, none⟩) a.length a.length) (List.replicate a.length 0) := by
    have h1 := own_made_of' (enc := Value.int .u64) (d := (0 : Int)) w2 w.heap.size 30 a.length HW2.out.size (by omega)
    have h2 := Kd.R_of_own (h1 := fun _ => rfl) h1 (fun k hk => own_base h1 k hk)
    rw [hgq] at h2
    rw [hw4]
    exact Kd.R_alloc (Kd.R_alloc (Kd.R_alloc h2 _) _) _
  have E1 : w4.heap[gq + 1]? = some (.cells #[.slice (some ⟨gq, 0, none⟩) a.length a.length] 31 (0, 0)) := by
    rw [hw4]
    have h := heap_alloc_new (w2.alloc (.cells (madeCells #[.int .u64 0] a.length) 30)) (.cells #[.slice (some ⟨w2.heap.size, 0, none⟩) a.length a.length] 31)
    rw [World.size_alloc, hgq] at h
    rw [hgq]
    exact heap_alloc_old (heap_alloc_old h)
  have E2 : w4.heap[gq + 1 + 1]? = some (.cells #[.slice none 0 0] 31 (0, 0)) := by
    rw [hw4]
    have h := heap_alloc_new ((w2.alloc (.cells (madeCells #[.int .u64 0] a.length) 30)).alloc (.cells #[.slice (some ⟨w2.heap.size, 0, none⟩) a.length a.length] 31)) (.cells #[.slice none 0 0] 31)
    rw [World.size_alloc, World.size_alloc, hgq] at h
    rw [hgq]
    exact heap_alloc_old h
  have E3 : w4.heap[gq + 1 + 1 + 1]? = some (.cells #[.slice A a.length ca] 31 (0, 0)) := by
    rw [hw4]
    have h := heap_alloc_new (((w2.alloc (.cells (madeCells #[.int .u64 0] a.length) 30)).alloc (.cells #[.slice (some ⟨w2.heap.size, 0, none⟩) a.length a.length] 31)).alloc (.cells #[.slice none 0 0] 31)) (.cells #[.slice A a.length ca] 31)
    rw [World.size_alloc, World.size_alloc, World.size_alloc, hgq] at h
    rw [hgq]
    exact h
  have E4 : w4.heap[w.heap.size]? = some (.cells #[.slice A' b.length cb] 31 (0, 0)) := by
    rw [hw4]; exact heap_alloc_old (heap_alloc_old (heap_alloc_old (heap_alloc_old HB2.out)))
  have E5 : Below w.heap.size w w4 := by
    rw [hw4]
    have := HW2.out.size
    exact (((HW2.out.alloc this _).alloc (by simp; omega) _).alloc (by simp; omega) _).alloc (by simp; omega) _
  have E6 : w.heap.size < gq := by rw [← hgq]; exact lt_of_block HB2.out
  have E7 : w4.heap.size = gq + 4 := by rw [hw4]; simp [hgq]
  have hBs : (((w2.alloc (.cells (madeCells #[.int .u64 0] a.length) 30)).alloc (.cells #[.slice (some ⟨w2.heap.size, 0, none⟩) a.length a.length] 31)).alloc (.cells #[.slice none 0 0] 31)).heap.size = gq + 1 + 1 + 1 := by simp [hgq]
  rw [hBs, hgq]
  clear hBs hw4 HW2 HB2 hgq
  have EE := Aside0.mk (And.intro E0 (And.intro E1 (And.intro E2 (And.intro E3 (And.intro E4 (And.intro E5 (And.intro E6 E7)))))))
  clear E0 E1 E2 E3 E4 E5 E6 E7
  gi_wp2_with fail
  obtain ⟨r, hr, hrl⟩ := lenN_of DA.out
  have hseq := down1_stops 4 (by omega) A ca a w w4 (gq + 1 + 1 + 1) HA.out DA.out (by omega) EE.out.2.2.2.2.2.1 EE.out.2.2.2.1 r hr hrl
  refine wpIn_rangeFunc_ownF rfl (by omega) (gf := 109) (lb := #[.pointer (some ⟨gq + 1 + 1 + 1, 0, none⟩)]) rfl trivial (enters_of Try.func109 (by kernel_rfl) rfl) hseq
    (fun h k => KpB.trans h k) ?kb (Below.refl _ _) (fun _ => rfl) (DivI w a b A' cb gq) (fun _ _ _ => False) (DivI.own (by have := EE.out; omega)) (fun _ _ _ _ _ h _ _ => h) ?start
    (fun x => { tmps := #[.slice A a.length ca, .slice A' b.length cb, undef, .pointer (some ⟨w.heap.size, 0, none⟩), .slice none 0 0, .slice none 0 0, .int .i64 0, .pointer (some ⟨gq + 1, 0, none⟩), .pointer (some ⟨gq + 1 + 1, 0, none⟩), .int .i64 (x.val : Int), .int .u64 (nbit (nv B64 a) x.val), .bool false, .slice A a.length ca, .slice A' b.length cb, .slice (some ⟨w.heap.size + 1, 0, none⟩) 2 2, .bool false, .bool false, .slice A' b.length cb, .slice A1 y.length k1, .int .i64 y.length, .bool false, .slice A a.length ca, .int .i64 a.length, .slice (some ⟨gq, 0, none⟩) a.length a.length, .slice A a.length ca, .func (.func 109) #[] #[.pointer (some ⟨gq + 1 + 1 + 1, 0, none⟩)], .int .i64 (x.val : Int), .int .u64 (nbit (nv B64 a) x.val), undef, undef, undef, undef, undef, undef, undef, undef, undef, undef, undef, undef, undef, undef, undef, undef, undef, undef, undef, undef, undef, undef, undef, undef, undef, undef, undef], defers := [] }) ?assign ?body ?done ?stop
  case kb =>
    intro W l o o' hl h hc hw
    have := EE.out
    exact ⟨belowK_b (w := w4) (by omega) W l o o' hl h hc hw, World.putObj_heap_other (by omega)⟩
  case start =>
    obtain ⟨h1, h2, h3, h4, h5, h6, h7, h8⟩ := EE.out
    exact ⟨.slice none 0 0, [], h1, h2, h3, h5, Kd.R_nil _ _ _ _ _, canon_nil, rfl, h6, by omega⟩
  case assign =>
    intro l x W K hK
    gi_wp2
    exact hK
  case body =>
    rintro l pre x W ⟨vr, ys, i1, i2, i3, i4, i5, i6, i7, i8, i9⟩ _
    have hlb := nv_lt_max (B := B64) (n := 80) B64_pos DB.out lb
    have hok := DivOk.all (b := nv B64 b) HP.out a.length (pre.map fun x => (x.val, nbit (nv B64 a) x.val)) (fun z hz => by
      simp only [List.mem_map] at hz
      obtain ⟨j, _, rfl⟩ := hz
      exact nbit_cases _ _)
    change DivOk (nv B64 b) a.length (divSt a b pre) at hok
    have S0 := Aside0.mk (show DSt w W a.length (.slice A' b.length cb) gq (divSt a b pre).1 W vr ys from ⟨i1, i2, i3, i4, i5, i6, i8, i9, KeepsOthers.refl W, rfl, EE.out.2.2.2.2.2.2.1, Below.refl _ _⟩)
    obtain ⟨w1b, hw1b⟩ : ∃ z, nbit (nv B64 a) x.val = z := ⟨_, rfl⟩
    have hbit := Aside0.mk (hw1b ▸ nbit_cases (nv B64 a) x.val)
    have hwb := Aside0.mk hw1b
    have hnum := Aside0.mk (And.intro i7 (And.intro hok hlb))
    have hlen : ys.length ≤ 80 := canon_len (by decide) i6 (by rw [i7]; have := hok.2.2; omega)
    obtain ⟨A8, c8, rfl⟩ := Kd.R_slice i5
    have c2 := cell_of_one i3
    have f2 := free_of_one i3
    rw [hw1b]
    clear i1 i2 i3 i4 i5 i6 i7 i8 i9 hw1b hlb hok
    gi_wp2_with fail
    refine ⟨trivial, (CallsIn.inRound l (callsIn_wide.2 (eachAdd_calls _ _ ys ys W (RL.of_R S0.out.r) (RL.of_R S0.out.r) S0.out.canon.1 S0.out.canon.1 (by omega) (by omega)))).mono ?_⟩
    rintro e W1 ⟨v1, rfl, hn, hb⟩
    obtain ⟨ys1, ho1, hc1, hn1⟩ := hn.own S0.out.size
    obtain ⟨A9, c9, rfl⟩ := Kd.R_slice ho1
    have S1 := Aside0.mk ((S0.out.step hb).store ho1 hc1)
    have N1 := Aside0.mk hn1
    have hl1 : ys1.length ≤ 81 := canon_len (by decide) hc1 (by
      obtain ⟨h1, h2, h3⟩ := hnum.out
      have := h2.2.2
      have e : B64 ^ 81 = B64 ^ 80 * B64 := Int.pow_succ _ _
      have : B64 ^ 80 * 2 ≤ B64 ^ 80 * B64 := Int.mul_le_mul_of_nonneg_left (by decide) (Int.le_of_lt (pow_pos' B64_pos _))
      omega)
    have c2' := cell_of_one (S0.out.step hb).b8
    have f2' := free_of_one (S0.out.step hb).b8
    clear hn hb c2 f2 ho1 hc1 hn1
    gi_wp2_with fail
    have hdw : Dig B64 [w1b] := Dig.nil.cons (by have := hbit.out; rw [B64_eq]; omega)
    refine ⟨trivial, (CallsIn.inRound l (callsIn_wide.2 (eachAdd_calls _ _ ys1 [w1b] _ (RL.of_R (S1.out.step (below_alloc1 _ _)).r) (RL.lit1 (e := 30) (by simpa using heap_alloc_new (W1.setCell ⟨gq + 1 + 1, 0, none⟩ (.slice A9 ys1.length c9)) (.cells #[.int .u64 w1b] 30))) S1.out.canon.1 hdw (by omega) (by simp)))).mono ?_⟩
    rintro e W2 ⟨v2, rfl, hn, hb⟩
    obtain ⟨ys2, ho2, hc2, hn2⟩ := hn.own (S1.out.step (below_alloc1 _ (.cells #[.int .u64 w1b] 30))).size
    obtain ⟨A10, c10, rfl⟩ := Kd.R_slice ho2
    have T2 := (S1.out.step (below_alloc1 _ (.cells #[.int .u64 w1b] 30))).step hb
    have S2 := Aside0.mk (T2.store ho2 hc2)
    have N2 := Aside0.mk (show nv B64 ys2 = 2 * (divSt a b pre).2 + w1b by rw [hn2, N1.out, hnum.out.1]; simp [nv]; omega)
    have hl2 : ys2.length ≤ 81 := canon_len (by decide) hc2 (by
      obtain ⟨h1, h2, h3⟩ := hnum.out
      have := h2.2.2
      have := hbit.out
      have e : B64 ^ 81 = B64 ^ 80 * B64 := Int.pow_succ _ _
      have : B64 ^ 80 * 3 ≤ B64 ^ 80 * B64 := Int.mul_le_mul_of_nonneg_left (by decide) (Int.le_of_lt (pow_pos' B64_pos _))
      have := pow_pos' B64_pos 80
      rw [N2.out]
      omega)
    have c2'' := cell_of_one T2.b8
    have f2'' := free_of_one T2.b8
    have c3'' := cell_of_one T2.b3
    have hne : w.heap.size ≠ gq + 1 + 1 := by have := S2.out.hq; omega
    clear hn hb c2' f2' ho2 hc2 hn2 hdw T2
    gi_wp2_with fail
    refine ⟨trivial, (CallsIn.inRound l (callsIn_wide.2 (cmp_calls _ _ ys2 b _ (RL.of_R S2.out.r) (HB.out.below S2.out.below) S2.out.canon.1 DB.out (by omega) (by omega)))).mono ?_⟩
    rintro e W3 ⟨rfl, hb⟩
    have S3 := Aside0.mk (S2.out.step hb)
    clear hb c2'' f2'' c3''
    by_cases hc : nv B64 b ≤ nv B64 ys2
    · obtain ⟨rr, hrr, hr0⟩ : ∃ rr, cmpI (nv B64 ys2) (nv B64 b) = rr ∧ 0 ≤ rr := ⟨_, rfl, by rcases cmpI_cases (nv B64 ys2) (nv B64 b) with ⟨h, _⟩ | ⟨_, e⟩ | ⟨_, e⟩ <;> omega⟩
      rw [hrr]
      have HC := Aside0.mk hc
      have c4 := cell_of_one S3.out.b8
      have c5 := cell_of_one S3.out.b3
      clear hrr hc
      gi_wp2_with fail
      refine ⟨trivial, (CallsIn.inRound l (callsIn_wide.2 (eachSub_calls _ _ ys2 b _ (RL.of_R S3.out.r) (HB.out.below S3.out.below) S3.out.canon.1 DB.out (by omega) (by omega) HC.out))).mono ?_⟩
      rintro e W4 ⟨v3, rfl, hn, hb⟩
      obtain ⟨ys3, ho3, hc3, hn3⟩ := hn.own S3.out.size
      obtain ⟨A11, c11, rfl⟩ := Kd.R_slice ho3
      have T3 := S3.out.step hb
      have S4 := Aside0.mk (T3.store ho3 hc3)
      have N3 := Aside0.mk hn3
      have c6 := cell_of_one T3.b8
      have f6 := free_of_one T3.b8
      have c7 := cell_of_one T3.b7
      clear hn hb c4 c5 ho3 hc3 hn3 T3
      gi_wp2_with fail
      clear c6 f6 c7
      have S5 := S4.out
      clear S4
      generalize W4.setCell ⟨gq + 1 + 1, 0, none⟩ (.slice A11 ys3.length c11) = W5 at S5 ⊢
      have hxl := x.isLt
      obtain ⟨iv, hiv⟩ : ∃ iv : Nat, x.val = iv := ⟨_, rfl⟩
      rw [hiv] at hxl ⊢
      have c7 := cell_of_one S5.b7
      obtain ⟨J, hJ⟩ : ∃ J : Nat, iv / 64 = J := ⟨_, rfl⟩
      obtain ⟨S, hS⟩ : ∃ S : Nat, iv % 64 = S := ⟨_, rfl⟩
      obtain ⟨qv, hqv⟩ : ∃ qv, (divSt a b pre).1.getD J 0 = qv := ⟨_, rfl⟩
      have hql : (divSt a b pre).1.length = a.length := hnum.out.2.1.1
      obtain ⟨c8', f8'⟩ := Kd.R_celln 0 S5.q (J : Int) (by omega) (by omega)
      rw [Int.toNat_natCast] at c8' f8'
      rw [show rdOf 0 (divSt a b pre).1 (J : Int) = qv from hqv] at c8'
      have S6 := Aside0.mk S5
      have HQ := Aside0.mk (And.intro hqv (And.intro hql (And.intro hiv (And.intro hJ hS))))
      have hi1 : (J : Int) < (a.length : Int) := by omega
      have hi3 : (0 : Int) ≤ (J : Int) := by omega
      have hd1 : Int.tdiv (iv : Int) 64 = (J : Int) := by rw [Int.tdiv_eq_ediv_of_nonneg (by omega)]; omega
      have hd2 : IntKind.i64.wrap (J : Int) = (J : Int) := by rw [IntKind.wrap_i64]; omega
      have hd3 : Int.tmod (iv : Int) 64 = (S : Int) := by rw [Int.tmod_eq_emod_of_nonneg (by omega)]; omega
      have hd4 : IntKind.i64.wrap (S : Int) = (S : Int) := by rw [IntKind.wrap_i64]; omega
      have hd5 : (0 : Int) ≤ (S : Int) := by omega
      have hd6 : S < 64 := by omega
      clear S5 hqv hql hiv hxl hJ hS
      have hmx : Try.prog.follows .mixedOrders = true := by kernel_rfl
      have hpow : IntKind.u64.wrap (2 ^ S) = ((2 ^ S : Nat) : Int) := by
        have := Nat.pow_lt_pow_right (a := 2) (by omega) hd6
        have hp2 : (2 : Int) ^ S = ((2 ^ S : Nat) : Int) := (Int.natCast_pow 2 S).symm
        rw [IntKind.wrap_u64, hp2]
        exact Int.emod_eq_of_lt (Int.natCast_nonneg _) (Int.ofNat_lt.2 (Nat.lt_of_lt_of_eq this (by decide)))
      obtain ⟨z, hz⟩ : ∃ z, bits .or .u64 qv (IntKind.u64.wrap (2 ^ S)) = z := ⟨_, rfl⟩
      have S7 := Aside0.mk (S6.out.setq J z)
      have R := fun Q => reg14 l (5 - 1 - 1) Q W5 (gq + 1) gq iv J S a.length a.length qv z
      simp only [opsOf, Try.f25, opsIn, Option.bind_some, Option.getD_some, Nat.reduceEqDiff, Nat.reduceBEq, ↓reduceIte, Bool.false_eq_true, if_false] at R
      refine R _ _ _ _ _ _ _ _ _ _ _ _ _ _ _ _ _ _ _ _ _ _ _ _ _ _ _ _ _ _ _ _ _ _ _ _ _ _ _ _ _ _ _ _ _ _ _ _ _ _ _ _ _ _ c7 c8' f8' hi1 hi3 hd1 hd2 hd3 hd4 hd5 hd6 hz hmx ?_
      clear R
      intro tmps
      simp only [Exit.inBlock]
      obtain ⟨hqv, hql, hiv, hJ, hS⟩ := HQ.out
      have e : divSt a b (pre ++ [x]) = ((divSt a b pre).1.set J z, nv B64 ys3) := by
        rw [N3.out, N2.out, ← hz, hpow, ← hqv, ← hS, ← hJ, ← hiv]
        have := HC.out
        rw [N2.out] at this
        unfold divSt at *
        rw [List.map_append, List.map_cons, List.map_nil, divAll_snoc]
        unfold divStep
        dsimp only
        rw [hwb.out, if_pos this]
      have S8 := S7.out.step (below_drew (Below.refl _ _))
      exact ⟨S8.keeps, ⟨S8.kb, S8.bs⟩, _, ys3, by rw [e]; exact S8.q, S8.b7, S8.b8, S8.b3, S8.r, S8.canon, by rw [e], S8.below, S8.size⟩
    · rw [cmpI_lt (by omega)]
      have HC := Aside0.mk hc
      clear hc
      gi_wp2_with fail
      have e : divSt a b (pre ++ [x]) = ((divSt a b pre).1, nv B64 ys2) := by
        unfold divSt at *
        rw [List.map_append, List.map_cons, List.map_nil, divAll_snoc]
        unfold divStep
        dsimp only
        rw [hwb.out, ← N2.out, if_neg (by have := HC.out; omega)]
      exact ⟨S3.out.keeps, ⟨S3.out.kb, S3.out.bs⟩, _, ys2, by rw [e]; exact S3.out.q, S3.out.b7, S3.out.b8, S3.out.b3, S3.out.r, S3.out.canon, by rw [e], S3.out.below, S3.out.size⟩
  case done =>
    rintro D xs W hD rfl ⟨vr, ys, i1, i2, i3, i4, i5, i6, i7, i8, i9⟩ hK
    obtain ⟨A8, c8, rfl⟩ := Kd.R_slice i5
    have hfin := divAll_done (nv_nonneg B64_pos DA.out) HP.out a.length r hrl (by
      have h1 := hr.1
      have h2 := nv_nonneg B64_pos DA.out
      omega)
    have hst : divSt a b (downsF (64 * a.length) r hrl r (Nat.le_refl _)) = divAll (nv B64 b) a.length (downs (nv B64 a) r r) := by
      unfold divSt; rw [downsF_map]
    rw [hst] at i1 i7
    obtain ⟨q, hq⟩ : ∃ q, (divAll (nv B64 b) a.length (downs (nv B64 a) r r)).1 = q := ⟨_, rfl⟩
    rw [hq] at i1 hfin
    have hok := DivOk.all (b := nv B64 b) HP.out a.length (downs (nv B64 a) r r) (fun z hz => by
      simp only [downs, List.mem_map] at hz
      obtain ⟨j, _, rfl⟩ := hz
      exact nbit_cases _ _)
    have hdq : Dig B64 q ∧ q.length = a.length := by rw [← hq]; exact ⟨hok.2.1, hok.1⟩
    have II := Aside0.mk (And.intro i1 (And.intro i5 (And.intro i6 (And.intro i8 (And.intro hdq (And.intro hfin (And.intro i7 (And.intro hK (And.intro hD i9)))))))))
    have B1 := Aside0.mk i2
    have B2 := Aside0.mk i3
    have c1 := cell_of_one i2
    have c2 := cell_of_one i3
    clear i1 i2 i3 i4 i5 i6 i7 i8 i9 hfin hst hq hok hdq hK
    gi_wp2_with fail
    have hmx : Try.prog.follows .mixedOrders = true := by kernel_rfl
    refine wpIn_strict ?_
    gi_region_with_o ((refine ⟨trivial, (callsIn_wide.2 (of_calls _ q _ (RL.of_R (Kd.R_drew II.out.1)) II.out.2.2.2.2.1.1 (by have := II.out.2.2.2.2.1.2; omega))).mono ?_⟩; rintro e W1 ⟨v1, zs, rfl, o1, d1, n1, l1, b1⟩; have d2 := cell_of_one ((b1.block _ (lt_of_block B2.out)).trans B2.out); have FF := Aside0.mk (And.intro o1 (And.intro d1 (And.intro n1 (And.intro l1 b1)))); clear o1 d1 n1 l1 b1))
    all_goals simp only [strict]
    all_goals gi_wp2_with fail
    all_goals
      obtain ⟨i1, i5, i6, i8, hdq, hfin, i7, hK, hD', i9⟩ := II.out
      obtain ⟨o1, d1, n1, l1, b1⟩ := FF.out
      have e6 := EE.out.2.2.2.2.2.2.1
      have e7 := EE.out.2.2.2.2.2.2.2
      have hb := below_then i8 i8.size (Below.trans (below_drew (Below.refl _ _)) b1)
      have hlt := lt_of_block hK
      have hK' : W1.heap[D]? = some (.deferred (some [])) := (b1.block D (show D < W.drew.heap.size from hlt)).trans hK
      refine ⟨by simp, .inl ⟨D, _, rfl, run_takeDeferred hK', ?_⟩⟩
      have hg : W1.grownBy (W1.putObj D (.deferred none)) (some D) := grownBy_putObj' W1 D _
      have hr : ∀ r, some D = some r → ∃ o : Obj, W1.heap[r]? = some o ∧ o.isCells = false := fun r e => by cases e; exact ⟨_, hK', rfl⟩
      refine ⟨_, results_tmp3 rfl _ _ _, v1, .slice A8 ys.length c8, rfl, ?_, ?_, ?_⟩
      · refine ⟨zs, RO.own (Kd.R_mono (Kd.R_lower o1 i8.size) (fun b hb => Nat.le_trans i8.size hb)) hg hr, d1, by rw [n1, hfin.1], by omega⟩
      · refine ⟨ys, RO.own (Kd.R_below (Kd.R_drew (Kd.R_mono (Kd.R_lower i5 (by omega)) (fun b hb => by omega))) b1) hg hr, i6, by rw [i7, hfin.2], ?_⟩
        have h1 := nv_lt_max (B := B64) (n := 80) B64_pos DB.out lb
        have h2 := Int.emod_lt_of_pos (nv B64 a) HP.out
        have := canon_len (n := 80) (by decide) i6 (by rw [i7, hfin.2]; omega)
        omega
      · exact hb.grown hg hb.size (fun k e => by cases e; omega)
  case stop => exact fun _ _ _ _ _ _ h _ => h.elim
end Go.Proofs.Ytokadjfakncdfaa
end
section
set_option linter.unusedVariables false
set_option linter.unusedSimpArgs false
namespace Go.Proofs.Ytokadjfakncdfaa
open Go.RowKit Go.Proofs.YtokadjfakncdfaaW.PrintWords Go.Proofs.YtokadjfakncdfaaW.PrintLast Go.Proofs.YtokadjfakncdfaaW.PrintMore
/-- v reads as words of the number n, at most L of them. -/
structure DN (w : World) (v : Value) (n : Int) (L : Nat) : Prop where
  mk ::
  out : ∃ ys, RL .u64 w v ys ∧ Dig B64 ys ∧ nv B64 ys = n ∧ ys.length ≤ L
/-- The same, in form. -/
structure CN (w : World) (v : Value) (n : Int) (L : Nat) : Prop where
  mk ::
  out : ∃ ys, RL .u64 w v ys ∧ Canon B64 ys ∧ nv B64 ys = n ∧ ys.length ≤ L
theorem CN.dn {w : World} {v : Value} {n : Int} {L : Nat} (h : CN w v n L) : DN w v n L := by
  obtain ⟨ys, h1, h2, h3, h4⟩ := h.out
  exact ⟨ys, h1, h2.1, h3, h4⟩
theorem DN.below {w w' : World} {v : Value} {n : Int} {L : Nat} (h : DN w v n L) (hb : Below w.heap.size w w') : DN w' v n L := by
  obtain ⟨ys, h1, h2, h3, h4⟩ := h.out
  exact ⟨ys, h1.below hb, h2, h3, h4⟩
theorem CN.below {w w' : World} {v : Value} {n : Int} {L : Nat} (h : CN w v n L) (hb : Below w.heap.size w w') : CN w' v n L := by
  obtain ⟨ys, h1, h2, h3, h4⟩ := h.out
  exact ⟨ys, h1.below hb, h2, h3, h4⟩
theorem DN.mono {w : World} {v : Value} {n : Int} {L L' : Nat} (h : DN w v n L) (hl : L ≤ L') : DN w v n L' := by
  obtain ⟨ys, h1, h2, h3, h4⟩ := h.out
  exact ⟨ys, h1, h2, h3, Nat.le_trans h4 hl⟩
theorem DN.nonneg {w : World} {v : Value} {n : Int} {L : Nat} (h : DN w v n L) : 0 ≤ n := by
  obtain ⟨ys, h1, h2, h3, h4⟩ := h.out
  rw [← h3]; exact nv_nonneg B64_pos h2
theorem DN.lt {w : World} {v : Value} {n : Int} {L : Nat} (h : DN w v n L) : n < B64 ^ L := by
  obtain ⟨ys, h1, h2, h3, h4⟩ := h.out
  have := nv_lt B64_pos h2
  have := pow_le_pow' B64_pos h4
  omega
theorem Num.cn {w w' : World} {v : Value} {n : Int} (h : Num w w' v n) (L : Nat) (hn : n < B64 ^ L) : CN w' v n L := by
  obtain ⟨ys, h1, h2, h3, h4⟩ := h
  exact ⟨ys, RL.of_R h1, h2, h3, canon_len (by decide) h2 (by omega)⟩
theorem CN.lits {e : Nat} {W : World} {g : Nat} (xs : List Int) (h : W.heap[g]? = some (.cells (xs.map (Value.int .u64)).toArray e (0, 0))) (L : Nat) (hl : xs.length ≤ L) (hL : L ≤ 1000) (hd : Dig B64 xs) (hc : xs.getLast? ≠ some 0) :
    CN W (.slice (some ⟨g, 0, none⟩) xs.length xs.length) (nv B64 xs) L := ⟨xs, RL.lits h (by omega), ⟨hd, hc⟩, rfl, hl⟩
theorem DN.lits {e : Nat} {W : World} {g : Nat} (xs : List Int) (h : W.heap[g]? = some (.cells (xs.map (Value.int .u64)).toArray e (0, 0))) (L : Nat) (hl : xs.length ≤ L) (hL : L ≤ 1000) (hd : Dig B64 xs) :
    DN W (.slice (some ⟨g, 0, none⟩) xs.length xs.length) (nv B64 xs) L := ⟨xs, RL.lits h (by omega), hd, rfl, hl⟩
theorem divmod_n {w : World} {va vb : Value} {x y : Int} {la lb : Nat} (ha : DN w va x la) (hb : DN w vb y lb) (h1 : la ≤ 80) (h2 : lb ≤ 80) (hpos : 0 < y) :
    Calls Try.prog 25 #[va, vb] w fun e w' => ∃ vq vr, e = .returned (.tuple #[vq, vr, .int .i64 0]) ∧ CN w' vq (x / y) la ∧ CN w' vr (x % y) lb ∧ Below w.heap.size w w' := by
  have e1 := ha.lt
  have e2 := hb.lt
  have e3 := ha.nonneg
  obtain ⟨xs, a1, a2, rfl, a4⟩ := ha.out
  obtain ⟨ys, b1, b2, rfl, b4⟩ := hb.out
  refine (divmod_ok va vb xs ys w a1 b1 a2 b2 (by omega) (by omega) hpos).mono ?_
  rintro e w' ⟨vq, vr, he, hq, hr, hb'⟩
  refine ⟨vq, vr, he, hq.cn _ ?_, hr.cn _ ?_, hb'⟩
  · have := Int.ediv_le_self (nv B64 ys) e3
    omega
  · have := Int.emod_lt_of_pos (nv B64 xs) hpos
    omega
theorem of_n {w : World} {va : Value} {x : Int} {la : Nat} (ha : DN w va x la) (h1 : la ≤ 2000) :
    Calls Try.prog 24 #[va] w fun e w' => ∃ v', e = .returned v' ∧ CN w' v' x la ∧ Below w.heap.size w w' := by
  obtain ⟨xs, a1, a2, rfl, a4⟩ := ha.out
  refine (of_calls va xs w a1 a2 (by omega)).mono ?_
  rintro e w' ⟨v', ys, he, o, c, n, l, hb'⟩
  exact ⟨v', he, ⟨ys, RL.of_R o, c, n, by omega⟩, hb'⟩
theorem same_n {w : World} {va vb : Value} {x y : Int} {la lb : Nat} (ha : CN w va x la) (hb : CN w vb y lb) (h1 : la ≤ 2000) :
    Calls Try.prog 21 #[va, vb] w fun e w' => e = .returned (.bool (decide (x = y))) ∧ Below w.heap.size w w' := by
  obtain ⟨xs, a1, a2, rfl, a4⟩ := ha.out
  obtain ⟨ys, b1, b2, rfl, b4⟩ := hb.out
  refine (same_calls va vb xs ys w a1 b1 (by omega)).mono ?_
  rintro e w' ⟨rfl, hb'⟩
  refine ⟨?_, hb'⟩
  have : decide (xs = ys) = decide (nv B64 xs = nv B64 ys) := by
    by_cases h : xs = ys
    · simp [h]
    · have : nv B64 xs ≠ nv B64 ys := fun e => h (canon_inj B64_pos a2 b2 e)
      simp [h, this]
  rw [this]
theorem bits_n {w : World} {va : Value} {x : Int} {la : Nat} (ha : DN w va x la) (h1 : la ≤ 1000) (r : Nat) (hr : LenN x.toNat r) :
    Calls Try.prog 30 #[va] w fun e w' => e = .returned (.int .i64 r) ∧ Below w.heap.size w w' := by
  obtain ⟨xs, a1, a2, rfl, a4⟩ := ha.out
  refine (bits_calls va xs w a1 a2 (by omega)).mono ?_
  rintro e w' ⟨s, rfl, hs, _, hb'⟩
  rw [hr.uniq hs]
  exact ⟨rfl, hb'⟩
end Go.Proofs.Ytokadjfakncdfaa
end
section
set_option linter.unusedVariables false
set_option linter.unusedSimpArgs false
namespace Go.Proofs.Ytokadjfakncdfaa
open Go.RowKit Go.Proofs.YtokadjfakncdfaaW.PrintWords Go.Proofs.YtokadjfakncdfaaW.PrintLast Go.Proofs.YtokadjfakncdfaaW.PrintMore
/-- A slice as a row gives it: all that it holds to its capacity. -/
def IsRow (k : IntKind) (w : World) (a : Option Addr) (len cap : Nat) (zs : List Int) : Prop :=
  (a = none ∧ len = 0 ∧ cap = 0 ∧ zs = []) ∨
  ∃ x, a = some x ∧ len ≤ cap ∧ cap ≤ maxLen ∧ zs.length = cap ∧ (∀ i, i < zs.length → w.cell? (x.add i) = some (.int k (zs.getD i 0))) ∧ ∀ n ∈ zs, (Lit.int k n).wf = true
theorem IsRow.rl {k : IntKind} {w : World} {a : Option Addr} {len cap : Nat} {zs : List Int} (h : IsRow k w a len cap zs) :
    ∃ l : List Int, l.length = len ∧ RL k w (.slice a len cap) l ∧ ∀ x ∈ l, (Lit.int k x).wf = true := by
  obtain ⟨l, rfl, h1, h2, h3, h4⟩ := ReadsInt.ofRowC h
  exact ⟨l, rfl, ⟨a, cap, rfl, h4, Kd.C_of_reads (d := (0 : Int)) (h1 := fun _ => rfl) h1⟩, h3⟩
theorem wf_u64 {x : Int} (h : (Lit.int .u64 x).wf = true) : 0 ≤ x ∧ x < B64 := by
  simp [Lit.wf, IntKind.min, IntKind.max, IntKind.bits, IntKind.signed] at h
  rw [B64_eq]
  omega
theorem wf_u8 {x : Int} (h : (Lit.int .u8 x).wf = true) : 0 ≤ x ∧ x < B8 := by
  simp [Lit.wf, IntKind.min, IntKind.max, IntKind.bits, IntKind.signed] at h
  unfold B8
  omega
theorem IsRow.u64 {w : World} {a : Option Addr} {len cap : Nat} {zs : List Int} (h : IsRow .u64 w a len cap zs) :
    ∃ l : List Int, l.length = len ∧ RL .u64 w (.slice a len cap) l ∧ Dig B64 l := by
  obtain ⟨l, h1, h2, h3⟩ := h.rl
  exact ⟨l, h1, h2, fun x hx => wf_u64 (h3 x hx)⟩
theorem IsRow.u8 {w : World} {a : Option Addr} {len cap : Nat} {zs : List Int} (h : IsRow .u8 w a len cap zs) :
    ∃ l : List Int, l.length = len ∧ RL .u8 w (.slice a len cap) l ∧ Dig B8 l := by
  obtain ⟨l, h1, h2, h3⟩ := h.rl
  exact ⟨l, h1, h2, fun x hx => wf_u8 (h3 x hx)⟩
theorem IsRow.dn {w : World} {a : Option Addr} {len cap : Nat} {zs : List Int} (h : IsRow .u64 w a len cap zs) (L : Nat) (hL : len ≤ L) : ∃ n, DN w (.slice a len cap) n L := by
  obtain ⟨l, h1, h2, h3⟩ := h.u64
  exact ⟨_, l, h2, h3, rfl, by omega⟩
end Go.Proofs.Ytokadjfakncdfaa
end
section
set_option linter.unusedVariables false
set_option linter.unusedSimpArgs false
namespace Go.Proofs.Ytokadjfakncdfaa
open Go.RowKit Go.Proofs.YtokadjfakncdfaaW.PrintWords Go.Proofs.YtokadjfakncdfaaW.PrintLast Go.Proofs.YtokadjfakncdfaaW.PrintMore
open PR
attribute [local go_sem] Oper.semAt_some
attribute [local go_sem] min2_int
end Go.Proofs.Ytokadjfakncdfaa
end
section
set_option linter.unusedVariables false
set_option linter.unusedSimpArgs false
namespace Go.Proofs.Ytokadjfakncdfaa
open Go.RowKit Go.Proofs.YtokadjfakncdfaaW.PrintWords Go.Proofs.YtokadjfakncdfaaW.PrintLast Go.Proofs.YtokadjfakncdfaaW.PrintMore
open PR
attribute [local go_sem] Oper.semAt_some
/-- The append, held together. -/
def AppO (ats : Array TypeId) (ty : TypeId) (args : Array Value) : Sem Value := Builtin.append_ ats ty args
theorem appO_builtin (ats : Array TypeId) (ty : TypeId) (cs : Array Bool) (args : Array Value) : builtin .append ats ty cs args = (do pure (.value (← AppO ats ty args))) := rfl
attribute [local go_sem ↓ high] appO_builtin
end Go.Proofs.Ytokadjfakncdfaa
end
section
set_option linter.unusedVariables false
set_option linter.unusedSimpArgs false
namespace Go.Proofs.Ytokadjfakncdfaa
open Go.RowKit Go.Proofs.YtokadjfakncdfaaW.PrintWords Go.Proofs.YtokadjfakncdfaaW.PrintLast Go.Proofs.YtokadjfakncdfaaW.PrintMore
open PR
attribute [local go_sem] Oper.semAt_some
end Go.Proofs.Ytokadjfakncdfaa
end
