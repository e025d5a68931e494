/- nat: DivMod, Bytes, FromBytes; the contracts told by numbers. -/
import Derived.Test.YtokadjfakncdfaaGA
import Derived.RangeFuncFrom
import Derived.RangeFuncLeaves
import Derived.RangeFuncCalls
import Derived.Shelf.Abstract
import Derived.TacticsInMore
import Derived.OwnWalkIn
import Derived.LoopIn
import Derived.OneCell
import Derived.Laws.Bits64b
import Derived.Shelf.RegionOpen
import Derived.IntWalk
import Derived.RegionIn
import Derived.Deep.AppendLies
section
set_option linter.unusedVariables false
set_option linter.unusedSimpArgs false
namespace Go.Proofs.Ytokadjfakncdfaa
open Go.RowKit Go.Proofs.YtokadjfakncdfaaW.PrintWords Go.Proofs.YtokadjfakncdfaaW.PrintLast Go.Proofs.YtokadjfakncdfaaW.PrintMore
open PR
attribute [local go_sem] Oper.semAt_some

theorem down_calls (A : Option Addr) (m c : Nat) (w : World) :
    Calls Try.prog 68 #[.slice A m c] w fun e w' => e = .returned (.func (.func 109) #[] #[.pointer (some ⟨w.heap.size, 0, none⟩)]) ∧ w' = w.alloc (.cells #[.slice A m c] 31) := by
  go_enter Try.func68, Try.ntmps68
  go_wp2_with fail
  go_ret
  exact ⟨rfl, rfl⟩

/-- What a round keeps: what lay below n₀, and the iterator's own variable. -/
def KpB (n₀ Bs : Nat) (A B : World) : Prop := Below n₀ A B ∧ B.heap[Bs]? = A.heap[Bs]?
theorem KpB.trans {n₀ Bs : Nat} {A B C : World} (h : KpB n₀ Bs A B) (k : KpB n₀ Bs B C) : KpB n₀ Bs A C := ⟨h.1.trans k.1, k.2.trans h.2⟩

/-- The places, the highest first: k of r. -/
def downsF (m r : Nat) (h : r ≤ m) : (k : Nat) → k ≤ r → List (Fin m)
  | 0, _ => []
  | k + 1, hk => downsF m r h k (by omega) ++ [⟨r - 1 - k, by omega⟩]
theorem downsF_length (m r : Nat) (h : r ≤ m) : ∀ (k : Nat) (hk : k ≤ r), (downsF m r h k hk).length = k
  | 0, _ => rfl
  | k + 1, hk => by simp [downsF, downsF_length m r h k]
theorem downsF_map (n : Int) (m r : Nat) (h : r ≤ m) : ∀ (k : Nat) (hk : k ≤ r), (downsF m r h k hk).map (fun x => (x.val, nbit n x.val)) = downs n r k
  | 0, _ => rfl
  | k + 1, hk => by rw [downs_succ, ← downsF_map n m r h k (by omega)]; simp [downsF]

set_option maxRecDepth 100000 in
theorem down1_stops (n : Nat) (hn : 1 ≤ n) (A : Option Addr) (c : Nat) (a : List Int) (w0 w : World) (Bs : Nat) (ha : RL .u64 w0 (.slice A a.length c) a) (da : Dig B64 a) (la : a.length ≤ 1000) (hw : Below w0.heap.size w0 w)
    (hB : w.heap[Bs]? = some (.cells #[.slice A a.length c] 31 (0, 0))) (r : Nat) (hr : LenN (nv B64 a).toNat r) (hrl : r ≤ 64 * a.length) :
    SeqStopsK Fence.wide n Try.prog 109 #[.pointer (some ⟨Bs, 0, none⟩)] (fun x : Fin (64 * a.length) => #[.int .i64 (x.val : Int), .int .u64 (nbit (nv B64 a) x.val)]) (KpB w0.heap.size Bs)
      (fun ys => ys = downsF (64 * a.length) r hrl r (Nat.le_refl _)) (fun _ => True) r w := fun l J Jx W hW hJ hJx hY h0 => by
  have hBW : W.heap[Bs]? = some (.cells #[.slice A a.length c] 31 (0, 0)) := (hW.block _ (lt_of_block hB)).trans hB
  have hc := cell_of_one hBW
  have HW := Aside0.mk (hw.trans (hW.mono hw.size))
  have HA := Aside0.mk ha
  have DA := Aside0.mk da
  have HR := Aside0.mk hr
  have HB := Aside0.mk hBW
  have H0 := Aside0.mk h0
  have HJ := Aside0.mk hJ
  have HY := Aside0.mk hY
  clear ha da hr hBW h0 hJ hY hW hw hJx hB
  refine callsIn_of_wp Try.func109 rfl trivial ?_ rfl
  simp only [Try.ntmps109, List.size_toArray, List.length_cons, List.length_nil, Nat.reduceAdd, Nat.reduceSub, Array.replicate_succ, Array.replicate_zero, List.push_toArray, List.append_toArray, List.nil_append, List.cons_append]
  gi_wp2_with fail
  refine ⟨trivial, (callsIn_wide.2 (bits_calls _ a W (HA.out.below HW.out) DA.out la)).mono ?_⟩
  rintro e W1 ⟨r', rfl, hr', hl, hb⟩
  obtain rfl : r' = r := hr'.uniq HR.out
  have HJ1 := Aside0.mk (HJ.out [] W W1 none H0.out (grown_of_below hb none) (fun _ e => by cases e))
  have HW1 := Aside0.mk (HW.out.trans (hb.mono HW.out.size))
  have HB1 := Aside0.mk ((hb.block _ (lt_of_block HB.out)).trans HB.out)
  clear hr' hb hc HB HW H0
  gi_wp2_with fail
  gi_loopw [3] (fun v3 wr => ∃ (k : Nat) (hk : k ≤ r'), v3 = .int .i64 ((r' : Int) - 1 - k) ∧ Aside0 (J (downsF (64 * a.length) r' hrl k hk) wr) ∧ Aside0 (Below w0.heap.size w0 wr) ∧ Aside0 (wr.heap[Bs]? = some (.cells #[.slice A a.length c] 31 (0, 0)))) (fun v3 _ => (intOf v3 + 1).toNat)
  case atStart => exact ⟨0, by omega, by simp, HJ1, HW1, HB1⟩
  case round =>
    clear HJ1 HW1 HB1
    obtain ⟨k, hk, rfl, HJ1, HW1, HB1⟩ := hrel
    have hc := cell_of_one HB1.out
    by_cases hlt : k < r'
    · obtain ⟨j, hj⟩ : ∃ j : Nat, j = r' - 1 - k := ⟨_, rfl⟩
      have hjm : j < 64 * a.length := by omega
      rw [show (r' : Int) - 1 - k = (j : Int) by omega]
      obtain ⟨fn, tmps, assign, body, hy, hR⟩ := HY.out _ ⟨j, hjm⟩ wr HJ1.out (by rw [downsF_length]; exact hlt)
      have HRR := Aside0.mk hR
      have HJJ := Aside0.mk (And.intro hj hlt)
      dsimp only at hy
      have hb1 : (0 : Int) ≤ j := by omega
      have hjj : j ≤ 64000 := by omega
      clear hR hj hlt
      gi_wp2_with fail
      refine ⟨trivial, (callsIn_wide.2 (bit_calls _ a j wr (HA.out.below HW1.out) DA.out (by omega) (by omega))).mono ?_⟩
      rintro e W3 ⟨rfl, rfl⟩
      gi_wp2_with fail
      refine HRR.out.mono ?_
      rintro e W4 (⟨rfl, hJ4, hk4⟩ | ⟨rfl, hJx4⟩)
      · have HJ4 := Aside0.mk hJ4
        have HW4 := Aside0.mk (HW1.out.trans hk4.1)
        have HB4 := Aside0.mk (hk4.2.trans HB1.out)
        clear hJ4 hk4 hc hy
        gi_wp2_with fail
        go_roundw
        case rel =>
          refine ⟨k + 1, by have := HJJ.out; omega, ?_, ⟨?_⟩, HW4, HB4⟩
          · have := HJJ.out
            exact congrArg (fun z => Value.int .i64 z) (by omega)
          · have h4 := HJ4.out; have e := HJJ.out.1; simp only [e] at h4; exact h4
        case measure => have := HJJ.out; simp [intOf]
      · have HX4 := Aside0.mk hJx4
        clear hJx4 hc hy
        gi_wp2_with fail
        refine bodyPost_ret (results_none rfl _ _ _) rfl ?_
        exact ⟨⟨_, rfl⟩, .inr ⟨_, trivial, HX4.out⟩⟩
    · obtain rfl : k = r' := by omega
      gi_wp2_with fail
      go_end0
      exact ⟨⟨_, rfl⟩, .inl ⟨_, rfl, HJ1.out⟩⟩
end Go.Proofs.Ytokadjfakncdfaa
end

section
set_option linter.unusedVariables false
namespace Go.Proofs.Ytokadjfakncdfaa

/-- One step of the division by b: a bit w of worth 2^i comes. -/
def divStep (b : Int) (s : List Int × Int) (x : Nat × Int) : List Int × Int :=
  if b ≤ 2 * s.2 + x.2 then (s.1.set (x.1 / 64) (bits .or .u64 (s.1.getD (x.1 / 64) 0) ((2 ^ (x.1 % 64) : Nat) : Int)), 2 * s.2 + x.2 - b) else (s.1, 2 * s.2 + x.2)
def divAll (b : Int) (n : Nat) (pre : List (Nat × Int)) : List Int × Int := pre.foldl (divStep b) (List.replicate n 0, 0)
theorem divAll_snoc (b : Int) (n : Nat) (pre : List (Nat × Int)) (x : Nat × Int) : divAll b n (pre ++ [x]) = divStep b (divAll b n pre) x := by simp [divAll]

theorem or_fits (x : Int) (hx : 0 ≤ x ∧ x < B64) (s : Nat) (hs : s < 64) : 0 ≤ bits .or .u64 x ((2 ^ s : Nat) : Int) ∧ bits .or .u64 x ((2 ^ s : Nat) : Int) < B64 := by
  obtain ⟨t, rfl⟩ := Int.eq_ofNat_of_zero_le hx.1
  rw [B64_eq] at hx
  have h1 : (2 : Nat) ^ s < 18446744073709551616 := by
    have := Nat.pow_lt_pow_right (a := 2) (by omega) hs
    omega
  have h2 : t < 18446744073709551616 := by omega
  rw [bits_or_u64_nat t _ h2 h1, B64_eq]
  have h3 : t ||| 2 ^ s < 2 ^ 64 := Nat.or_lt_two_pow (by omega) (by omega)
  omega

/-- What holds of the two along the way. -/
def DivOk (b : Int) (n : Nat) (s : List Int × Int) : Prop := s.1.length = n ∧ Dig B64 s.1 ∧ 0 ≤ s.2 ∧ s.2 < b
theorem DivOk.step {b : Int} {n : Nat} {s : List Int × Int} (h : DivOk b n s) (hb : 0 < b) {x : Nat × Int} (hx : x.2 = 0 ∨ x.2 = 1) : DivOk b n (divStep b s x) := by
  obtain ⟨h1, h2, h3, h4⟩ := h
  unfold divStep
  split
  · exact ⟨by simp [h1], h2.set (or_fits _ (h2.getD B64_pos _) _ (Nat.mod_lt _ (by omega))) _, by dsimp only; omega, by dsimp only; omega⟩
  · exact ⟨h1, h2, by dsimp only; omega, by dsimp only; omega⟩
theorem DivOk.all {b : Int} (hb : 0 < b) (n : Nat) (pre : List (Nat × Int)) (h : ∀ x ∈ pre, x.2 = 0 ∨ x.2 = 1) : DivOk b n (divAll b n pre) := by
  unfold divAll
  have : ∀ (pre : List (Nat × Int)) (s : List Int × Int), (∀ x ∈ pre, x.2 = 0 ∨ x.2 = 1) → DivOk b n s → DivOk b n (pre.foldl (divStep b) s) := by
    intro pre
    induction pre with
    | nil => intro s _ hs; exact hs
    | cons x pre ih => intro s hp hs; exact ih _ (fun y hy => hp y (List.mem_cons_of_mem _ hy)) (hs.step hb (hp x List.mem_cons_self))
  exact this pre _ h ⟨by simp, Dig.replicate B64_pos _, by simp, hb⟩

theorem nbit_cases (n : Int) (i : Nat) : nbit n i = 0 ∨ nbit n i = 1 := by unfold nbit; omega

/-- A word of a number that 2^(i+1) divides, and a bit of worth 2^i more. -/
theorem or_adds {q : List Int} (dq : Dig B64 q) (i : Nat) (hi : i / 64 < q.length) (Z : Int) (hZ : 0 ≤ Z) (hq : nv B64 q = ((2 ^ (i + 1) : Nat) : Int) * Z) :
    nv B64 (q.set (i / 64) (bits .or .u64 (q.getD (i / 64) 0) ((2 ^ (i % 64) : Nat) : Int))) = nv B64 q + ((2 ^ i : Nat) : Int) := by
  have h1 := nv_split B64 q (i / 64) (by omega)
  have h2 := nv_lt B64_pos (dq.take (i / 64))
  have h3 := nv_nonneg B64_pos (dq.take (i / 64))
  rw [List.length_take, Nat.min_eq_left (by omega)] at h2
  have e1 : q.drop (i / 64) = q.getD (i / 64) 0 :: q.drop (i / 64 + 1) := by
    rw [List.drop_eq_getElem_cons hi, List.getD_eq_getElem?_getD, List.getElem?_eq_getElem hi]; rfl
  rw [e1, nv_cons] at h1
  have h4 := dq.getD B64_pos (i / 64)
  have h5 := nv_nonneg B64_pos (dq.drop (i / 64 + 1))
  obtain ⟨t, ht⟩ := Int.eq_ofNat_of_zero_le h4.1
  obtain ⟨u, hu⟩ := Int.eq_ofNat_of_zero_le h5
  obtain ⟨lo, hlo⟩ := Int.eq_ofNat_of_zero_le h3
  obtain ⟨z, rfl⟩ := Int.eq_ofNat_of_zero_le hZ
  rw [ht, hu, hlo] at h1
  rw [hlo, B64_pow] at h2
  rw [ht] at h4
  rw [hq, B64_pow, B64_eq] at h1
  have h6 : 2 ^ (i + 1) * z = lo + 2 ^ (64 * (i / 64)) * (t + 18446744073709551616 * u) := by
    have : ((2 ^ (i + 1) * z : Nat) : Int) = ((lo + 2 ^ (64 * (i / 64)) * (t + 18446744073709551616 * u) : Nat) : Int) := by
      rw [Int.natCast_mul, h1]; simp [Int.natCast_add, Int.natCast_mul]
    exact Int.ofNat_inj.1 this
  have e3 : (2 : Nat) ^ (i + 1) = 2 ^ (64 * (i / 64)) * 2 ^ (i % 64 + 1) := by rw [← Nat.pow_add]; congr 1; omega
  have h7 : t + 18446744073709551616 * u = 2 ^ (i % 64 + 1) * z := by
    have hlo0 : lo / 2 ^ (64 * (i / 64)) = 0 := Nat.div_eq_of_lt (Int.ofNat_lt.1 h2)
    have := congrArg (· / 2 ^ (64 * (i / 64))) h6
    simp only [Nat.add_mul_div_left _ _ (Nat.two_pow_pos _), hlo0, Nat.zero_add] at this
    rw [← this, e3, Nat.mul_assoc, Nat.mul_div_cancel_left _ (Nat.two_pow_pos _)]
  have e4 : (18446744073709551616 : Nat) = 2 ^ (i % 64 + 1) * 2 ^ (63 - i % 64) := by
    rw [← Nat.pow_add, show i % 64 + 1 + (63 - i % 64) = 64 by omega]
  have h8 : 2 ^ (i % 64 + 1) ∣ t := by
    have d1 : 2 ^ (i % 64 + 1) ∣ t + 18446744073709551616 * u := ⟨z, h7⟩
    have d2 : 2 ^ (i % 64 + 1) ∣ 18446744073709551616 * u := by rw [e4, Nat.mul_assoc]; exact Nat.dvd_mul_right _ _
    exact (Nat.dvd_add_left d2).1 d1
  obtain ⟨c, rfl⟩ := h8
  have h9 : (2 : Nat) ^ (i % 64) < 18446744073709551616 := by
    have := Nat.pow_lt_pow_right (a := 2) (by omega) (show i % 64 < 64 by omega)
    omega
  have h10 : 2 ^ (i % 64 + 1) * c < 18446744073709551616 := by have := h4.2; rw [B64_eq] at this; exact Int.ofNat_lt.1 this
  have h11 : 2 ^ (i % 64 + 1) * c ||| 2 ^ (i % 64) = 2 ^ (i % 64 + 1) * c + 2 ^ (i % 64) :=
    (Nat.two_pow_add_eq_or_of_lt (Nat.pow_lt_pow_right (by omega) (by omega)) c).symm
  rw [ht, bits_or_u64_nat _ _ h10 h9, h11, nv_set _ _ _ _ hi, ht, Int.natCast_add]
  rw [show ((2 ^ (i % 64 + 1) * c : Nat) : Int) + ((2 ^ (i % 64) : Nat) : Int) - ((2 ^ (i % 64 + 1) * c : Nat) : Int) = ((2 ^ (i % 64) : Nat) : Int) by omega]
  rw [B64_pow, ← Int.natCast_mul, ← Nat.pow_add, show 64 * (i / 64) + i % 64 = i by omega]

/-- Behind k of N bits. -/
theorem divAll_inv {a b : Int} (ha : 0 ≤ a) (hb : 0 < b) (n N : Nat) (hN : N ≤ 64 * n) (hlt : a < ((2 ^ N : Nat) : Int)) : ∀ k, k ≤ N →
    nv B64 (divAll b n (downs a N k)).1 = ((2 ^ (N - k) : Nat) : Int) * (a / ((2 ^ (N - k) : Nat) : Int) / b) ∧ (divAll b n (downs a N k)).2 = a / ((2 ^ (N - k) : Nat) : Int) % b := by
  intro k
  induction k with
  | zero =>
    intro _
    have e : a / ((2 ^ (N - 0) : Nat) : Int) = 0 := Int.ediv_eq_zero_of_lt ha hlt
    rw [e]
    simp [downs, divAll, nv_replicate]
  | succ k ih =>
    intro hk
    obtain ⟨i1, i2⟩ := ih (by omega)
    have hok := DivOk.all hb n (downs a N k) (fun x hx => by
      simp only [downs, List.mem_map] at hx
      obtain ⟨j, _, rfl⟩ := hx
      exact nbit_cases _ _)
    rw [downs_succ, divAll_snoc]
    obtain ⟨m, hm⟩ : ∃ m, N - k = m + 1 := ⟨N - k - 1, by omega⟩
    have hm2 : N - (k + 1) = m := by omega
    have hm3 : N - 1 - k = m := by omega
    rw [hm] at i1 i2
    rw [hm2, hm3]
    obtain ⟨p, hp⟩ : ∃ p, a / ((2 ^ (m + 1) : Nat) : Int) = p := ⟨_, rfl⟩
    have hp0 : 0 ≤ p := by rw [← hp]; exact Int.ediv_nonneg ha (Int.natCast_nonneg _)
    rw [hp] at i1 i2
    have hbit : a / ((2 ^ m : Nat) : Int) = 2 * p + nbit a m := by
      unfold nbit
      have e : a / ((2 ^ (m + 1) : Nat) : Int) = a / ((2 ^ m : Nat) : Int) / 2 := by
        rw [Nat.pow_succ, Int.natCast_mul, Int.ediv_ediv_of_nonneg (Int.natCast_nonneg _)]; rfl
      rw [← hp, e]
      omega
    rw [hbit]
    obtain ⟨w, hw⟩ : ∃ w, nbit a m = w := ⟨_, rfl⟩
    have hw2 : w = 0 ∨ w = 1 := hw ▸ nbit_cases a m
    rw [hw]
    have hQ := Int.mul_ediv_add_emod p b
    obtain ⟨Q, hQ'⟩ : ∃ Q, p / b = Q := ⟨_, rfl⟩
    have hQ0 : 0 ≤ Q := by rw [← hQ']; exact Int.ediv_nonneg hp0 (by omega)
    obtain ⟨R, hR⟩ : ∃ R, p % b = R := ⟨_, rfl⟩
    have hR0 : 0 ≤ R := by rw [← hR]; exact Int.emod_nonneg _ (by omega)
    have hR1 : R < b := by rw [← hR]; exact Int.emod_lt_of_pos _ hb
    rw [hQ', hR] at hQ
    rw [hQ'] at i1
    rw [hR] at i2
    have hsum : 2 * p + w = b * (2 * Q) + (2 * R + w) := by rw [← hQ]; grind
    unfold divStep
    dsimp only
    rw [i2]
    by_cases hc : b ≤ 2 * R + w
    · rw [if_pos hc]
      have e1 : 2 * p + w = b * (2 * Q + 1) + (2 * R + w - b) := by rw [hsum]; grind
      have eq1 : (2 * p + w) / b = 2 * Q + 1 := by
        rw [e1, Int.add_comm, Int.add_mul_ediv_left _ _ (by omega), Int.ediv_eq_zero_of_lt (by omega) (by omega)]; omega
      have eq2 : (2 * p + w) % b = 2 * R + w - b := by
        rw [e1, Int.add_comm, Int.add_mul_emod_self_left, Int.emod_eq_of_lt (by omega) (by omega)]
      refine ⟨?_, eq2.symm⟩
      dsimp only
      rw [or_adds hok.2.1 m (by rw [hok.1]; omega) Q hQ0 i1, i1, eq1, Nat.pow_succ, Int.natCast_mul]
      grind
    · rw [if_neg hc]
      have eq1 : (2 * p + w) / b = 2 * Q := by
        rw [hsum, Int.add_comm, Int.add_mul_ediv_left _ _ (by omega), Int.ediv_eq_zero_of_lt (by omega) (by omega)]; omega
      have eq2 : (2 * p + w) % b = 2 * R + w := by
        rw [hsum, Int.add_comm, Int.add_mul_emod_self_left, Int.emod_eq_of_lt (by omega) (by omega)]
      refine ⟨?_, eq2.symm⟩
      dsimp only
      rw [i1, eq1, Nat.pow_succ, Int.natCast_mul]
      grind
theorem divAll_done {a b : Int} (ha : 0 ≤ a) (hb : 0 < b) (n N : Nat) (hN : N ≤ 64 * n) (hlt : a < ((2 ^ N : Nat) : Int)) :
    nv B64 (divAll b n (downs a N N)).1 = a / b ∧ (divAll b n (downs a N N)).2 = a % b := by
  have := divAll_inv ha hb n N hN hlt N (Nat.le_refl _)
  rw [Nat.sub_self] at this
  simpa using this
end Go.Proofs.Ytokadjfakncdfaa
end

section
set_option linter.unusedVariables false
set_option linter.unusedSimpArgs false
namespace Go.Proofs.Ytokadjfakncdfaa
open Go.RowKit Go.Proofs.YtokadjfakncdfaaW.PrintWords Go.Proofs.YtokadjfakncdfaaW.PrintLast Go.Proofs.YtokadjfakncdfaaW.PrintMore
attribute [local go_sem] Oper.semAt_some

/-- What the region leaves behind, whatever else the frame holds. -/
def Reg14 (Q : Exit → Act → World → Prop) (W : World) : Prop := ∀ tmps, Q .normal { tmps := tmps, defers := [] } W

set_option maxRecDepth 100000 in
set_option maxHeartbeats 4000000 in
theorem reg14 (l n : Nat) (Q : Exit → Act → World → Prop) (W : World) (g7 gq iv J S m c : Nat) (qv x : Int) (u0 u1 u2 u3 u4 u5 u6 u8 u10 u11 u12 u13 u14 u15 u16 u17 u18 u19 u20 u21 u22 u23 u24 u25 u26 u27 u28 u29 u30 u31 u32 u33 u34 u35 u36 u37 u38 u39 u40 u41 u42 u43 u44 u45 u46 u47 u48 u49 u50 u51 u52 u53 u54 : Value)
    (h7 : W.cell? ⟨g7, 0, none⟩ = some (.slice (some ⟨gq, 0, none⟩) m c)) (hc : W.cell? ⟨gq, J, none⟩ = some (.int .u64 qv)) (hf : W.frozen? ⟨gq, J, none⟩ = false)
    (hi1 : (J : Int) < (m : Int)) (hi3 : (0 : Int) ≤ (J : Int)) (hd1 : Int.tdiv (iv : Int) 64 = (J : Int)) (hd2 : IntKind.i64.wrap (J : Int) = (J : Int)) (hd3 : Int.tmod (iv : Int) 64 = (S : Int)) (hd4 : IntKind.i64.wrap (S : Int) = (S : Int)) (hd5 : (0 : Int) ≤ (S : Int)) (hd6 : S < 64)
    (hx : bits .or .u64 qv (IntKind.u64.wrap (2 ^ S)) = x) (hmx : Try.prog.follows .mixedOrders = true)
    (hQ : Reg14 Q (W.setCell ⟨gq, J, none⟩ (.int .u64 x)).drew) :
    (Code.region 14 (opsOf Try.f25 14) true).wpIn (Fence.wide.inRound l) n Try.prog Q { tmps := #[u0, u1, u2, u3, u4, u5, u6, .pointer (some ⟨g7, 0, none⟩), u8, .int .i64 (iv : Int), u10, u11, u12, u13, u14, u15, u16, u17, u18, u19, u20, u21, u22, u23, u24, u25, u26, u27, u28, u29, u30, u31, u32, u33, u34, u35, u36, u37, u38, u39, u40, u41, u42, u43, u44, u45, u46, u47, u48, u49, u50, u51, u52, u53, u54], defers := [] } W := by
  have HX := Aside0.mk hx
  clear hx
  simp only [opsOf, Try.f25, opsIn, Option.bind_some, Option.getD_some, Nat.reduceEqDiff, Nat.reduceBEq, ↓reduceIte, Bool.false_eq_true, if_false]
  have HQ := Aside0.mk hQ
  clear hQ
  gi_region_with_o (fail)
  all_goals (rw [HX.out]; exact HQ.out _)
end Go.Proofs.Ytokadjfakncdfaa
end

section
set_option linter.unusedVariables false
set_option linter.unusedSimpArgs false
namespace Go.Proofs.Ytokadjfakncdfaa
open Go.RowKit Go.Proofs.YtokadjfakncdfaaW.PrintWords Go.Proofs.YtokadjfakncdfaaW.PrintLast Go.Proofs.YtokadjfakncdfaaW.PrintMore
open PR
attribute [local go_sem] Oper.semAt_some

theorem long2_at (A1 A2 : Option Addr) (n1 n2 c1 c2 g : Nat) (W : World) (hb : W.heap[g]? = some (.cells #[.slice A1 n1 c1, .slice A2 n2 c2] 31 (0, 0))) (h1 : n1 ≤ 1000000) (h2 : n2 ≤ 1000000) :
    Calls Try.prog 62 #[.slice (some ⟨g, 0, none⟩) 2 2] W fun e w' => e = .returned (.bool (decide (80 < n1 ∨ 80 < n2))) ∧ w' = W := by
  refine (long_calls ⟨g, 0, none⟩ 2 [(A1, n1, c1), (A2, n2, c2)] _ ?_ (by simp)).mono ?_
  · intro i hi
    have : i = 0 ∨ i = 1 := by simp at hi; omega
    rcases this with rfl | rfl
    · exact ⟨World.news_of_block hb 0 _ rfl, by simp; omega⟩
    · exact ⟨World.news_of_block hb 1 _ rfl, by simp; omega⟩
  · rintro e w' ⟨rfl, rfl⟩
    exact ⟨by simp [anyLong], rfl⟩
theorem heap_alloc_old {w : World} {k : Nat} {o o' : Obj} (h : w.heap[k]? = some o) : (w.alloc o').heap[k]? = some o := (Below.heap_alloc w o' k (lt_of_block h)).trans h

theorem RO.own {k : IntKind} {e base : Nat} {ok : Nat → Prop} {W W' : World} {v : Value} {xs : List Int} (h : Kd.R (Kd.int k) e W base ok v xs) {row : Option Nat} (hg : W.grownBy W' row)
    (hr : ∀ r, row = some r → ∃ o : Obj, W.heap[r]? = some o ∧ o.isCells = false) : Kd.R (Kd.int k) e W' base ok v xs :=
  Kd.R_grown2 h rfl hg (fun j e h' => by
    obtain ⟨o, ho, hc⟩ := hr j e
    obtain ⟨cells, hcells⟩ := Kd.R_typed h j h'.symm
    rw [hcells] at ho
    cases ho
    simp [Obj.isCells] at hc)
theorem blk_own {W W' : World} {j : Nat} {cs : Array Value} {t : TypeId} {fr : Nat × Nat} (h : W.heap[j]? = some (.cells cs t fr)) {row : Option Nat} (hg : W.grownBy W' row)
    (hr : ∀ r, row = some r → ∃ o : Obj, W.heap[r]? = some o ∧ o.isCells = false) : W'.heap[j]? = some (.cells cs t fr) := (grownBy_keeps_cells hg hr h rfl).trans h

/-- A region that is left by its end alone. -/
def strict (Q : Exit → Act → World → Prop) : Exit → Act → World → Prop
  | .normal, a, w => Q .normal a w
  | _, _, _ => False
theorem wpIn_strict {F : Fence} {n : Nat} {P : Program} {c : Code} {Q : Exit → Act → World → Prop} {a : Act} {w : World} (h : c.wpIn F n P (strict Q) a w) : c.wpIn F n P Q a w :=
  wpIn_mono h (fun e a w hq => by cases e <;> first | exact hq | exact hq.elim)

theorem lenN_of {a : List Int} (da : Dig B64 a) : ∃ r : Nat, LenN (nv B64 a).toNat r ∧ r ≤ 64 * a.length := by
  have h1 := nv_lt B64_pos da
  have h2 := nv_nonneg B64_pos da
  rw [B64_pow] at h1
  obtain ⟨n, hn⟩ := Int.eq_ofNat_of_zero_le h2
  rw [hn] at h1 ⊢
  have h3 : n < 2 ^ (64 * a.length) := Int.ofNat_lt.1 h1
  rw [Int.toNat_natCast]
  by_cases h0 : n = 0
  · exact ⟨0, by rw [h0]; exact ⟨by simp, .inl rfl⟩, by omega⟩
  · refine ⟨n.log2 + 1, ⟨Nat.lt_log2_self, .inr (Nat.log2_self_le h0)⟩, ?_⟩
    have := Nat.log2_lt h0 |>.2 h3
    omega

/-- The division's state behind the bits 'pre'. -/
def divSt (a b : List Int) (pre : List (Fin (64 * a.length))) : List Int × Int := divAll (nv B64 b) a.length (pre.map fun x => (x.val, nbit (nv B64 a) x.val))
def DivI (w : World) (a b : List Int) (A' : Option Addr) (cb gq : Nat) (pre : List (Fin (64 * a.length))) (W : World) : Prop :=
  ∃ vr ys, RO .u64 30 W w.heap.size (.slice (some ⟨gq, 0, none⟩) a.length a.length) (divSt a b pre).1 ∧ W.heap[gq + 1]? = some (.cells #[.slice (some ⟨gq, 0, none⟩) a.length a.length] 31 (0, 0)) ∧
    W.heap[gq + 1 + 1]? = some (.cells #[vr] 31 (0, 0)) ∧ W.heap[w.heap.size]? = some (.cells #[.slice A' b.length cb] 31 (0, 0)) ∧ RO .u64 30 W (gq + 4) vr ys ∧ Canon B64 ys ∧ nv B64 ys = (divSt a b pre).2 ∧ Below w.heap.size w W ∧ gq + 4 ≤ W.heap.size
theorem DivI.own {w : World} {a b : List Int} {A' : Option Addr} {cb gq B : Nat} (hB : w.heap.size ≤ B) : OwnFrom B (DivI w a b A' cb gq) := by
  rintro pre W W' row ⟨vr, ys, h1, h2, h3, h4, h5, h6, h7, h8, h9⟩ hg hr
  have hr' : ∀ r, row = some r → ∃ o : Obj, W.heap[r]? = some o ∧ o.isCells = false := fun r e => (hr r e).2
  exact ⟨vr, ys, RO.own h1 hg hr', blk_own h2 hg hr', blk_own h3 hg hr', blk_own h4 hg hr', RO.own h5 hg hr', h6, h7, h8.grown hg h8.size (fun k e => Nat.le_trans hB (hr k e).1), Nat.le_trans h9 hg.size⟩

/-- Within a round: what lies where. -/
structure DSt (w W0 : World) (la : Nat) (vb : Value) (gq : Nat) (q : List Int) (W : World) (vr : Value) (ys : List Int) : Prop where
  q : RO .u64 30 W w.heap.size (.slice (some ⟨gq, 0, none⟩) la la) q
  b7 : W.heap[gq + 1]? = some (.cells #[.slice (some ⟨gq, 0, none⟩) la la] 31 (0, 0))
  b8 : W.heap[gq + 1 + 1]? = some (.cells #[vr] 31 (0, 0))
  b3 : W.heap[w.heap.size]? = some (.cells #[vb] 31 (0, 0))
  r : RO .u64 30 W (gq + 4) vr ys
  canon : Canon B64 ys
  below : Below w.heap.size w W
  size : gq + 4 ≤ W.heap.size
  keeps : KeepsOthers W0 W
  bs : W.heap[gq + 1 + 1 + 1]? = W0.heap[gq + 1 + 1 + 1]?
  hq : w.heap.size < gq
  kb : Below w.heap.size W0 W
theorem DSt.step {w W0 : World} {la gq : Nat} {vb vr : Value} {q ys : List Int} {W W' : World} (h : DSt w W0 la vb gq q W vr ys) (hb : Below W.heap.size W W') : DSt w W0 la vb gq q W' vr ys :=
  ⟨Kd.R_below h.q hb, (hb.block _ (lt_of_block h.b7)).trans h.b7, (hb.block _ (lt_of_block h.b8)).trans h.b8, (hb.block _ (lt_of_block h.b3)).trans h.b3, Kd.R_below h.r hb, h.canon, h.below.trans (hb.mono h.below.size), Nat.le_trans h.size hb.size,
    h.keeps.trans (KeepsOthers.of_grownBy (grown_of_below hb none) (fun _ _ e => by cases e)), (hb.block _ (by have := h.size; omega)).trans h.bs, h.hq, h.kb.trans (hb.mono h.below.size)⟩
theorem DSt.store {w W0 : World} {la gq : Nat} {vb vr v : Value} {q ys zs : List Int} {W : World} (h : DSt w W0 la vb gq q W vr ys) (hn : RO .u64 30 W (gq + 4) v zs) (hc : Canon B64 zs) :
    DSt w W0 la vb gq q (W.setCell ⟨gq + 1 + 1, 0, none⟩ v) v zs :=
  ⟨Kd.R_mono (Kd.R_far (Kd.R_tight rfl h.q) (fun k hk => by
      have e : k = gq := by simpa [Value.ownBlock] using hk
      show k ≠ gq + 1 + 1
      omega) _) (fun k hk => Kd.R_base h.q k hk.symm),
    (Below.heap_setCell W _ v _ (by show gq + 1 ≠ gq + 1 + 1; omega)).trans h.b7, one_setCell h.b8, (Below.heap_setCell W _ v _ (by have := h.hq; show w.heap.size ≠ gq + 1 + 1; omega)).trans h.b3,
    Kd.R_far hn (fun k hk => by show k ≠ gq + 1 + 1; omega) _, hc, h.below.setCell (by have := h.hq; show w.heap.size ≤ gq + 1 + 1; omega) _, by rw [World.size_setCell]; exact h.size,
    h.keeps.trans (KeepsOthers.setCell _ _ _), (Below.heap_setCell W _ v _ (by show gq + 1 + 1 + 1 ≠ gq + 1 + 1; omega)).trans h.bs, h.hq, h.kb.setCell (by have := h.hq; show w.heap.size ≤ gq + 1 + 1; omega) _⟩
theorem DSt.setq {w W0 : World} {la gq : Nat} {vb vr : Value} {q ys : List Int} {W : World} (h : DSt w W0 la vb gq q W vr ys) (j : Nat) (x : Int) :
    DSt w W0 la vb gq (q.set j x) (W.setCell ⟨gq, j, none⟩ (.int .u64 x)) vr ys :=
  ⟨by have := Kd.R_putn h.q (j : Int) x
      rw [Int.toNat_natCast] at this
      exact this,
    (Below.heap_setCell W _ _ _ (by show gq + 1 ≠ gq; omega)).trans h.b7, (Below.heap_setCell W _ _ _ (by show gq + 1 + 1 ≠ gq; omega)).trans h.b8, (Below.heap_setCell W _ _ _ (by have := h.hq; show w.heap.size ≠ gq; omega)).trans h.b3,
    Kd.R_far h.r (fun k hk => by show k ≠ gq; omega) _, h.canon, h.below.setCell (by have := h.hq; show w.heap.size ≤ gq; omega) _, by rw [World.size_setCell]; exact h.size,
    h.keeps.trans (KeepsOthers.setCell _ _ _), (Below.heap_setCell W _ _ _ (by show gq + 1 + 1 + 1 ≠ gq; omega)).trans h.bs, h.hq, h.kb.setCell (by have := h.hq; show w.heap.size ≤ gq; omega) _⟩
theorem RL.lit1 {k : IntKind} {e : Nat} {W : World} {g : Nat} {x : Int} (h : W.heap[g]? = some (.cells #[.int k x] e (0, 0))) : RL k W (.slice (some ⟨g, 0, none⟩) 1 1) [x] := by
  refine ⟨some ⟨g, 0, none⟩, 1, rfl, by simp, rfl, by simp, fun _ => ⟨_, rfl, fun j p hj => ?_⟩⟩
  have hj0 : j = 0 := by
    rcases Nat.eq_zero_or_pos j with h0 | h0
    · exact h0
    · rw [List.getElem?_eq_none (by simp; omega)] at hj; cases hj
  subst hj0
  refine ⟨[.int k p], rfl, rfl, fun i u hu => ?_⟩
  have : p = x := by simpa using hj.symm
  subst this
  have := World.news_of_block h i u (by simpa using hu)
  simpa [Kd.int, Kd.scalar] using this
theorem Num.own {W W' : World} {v : Value} {n : Int} {B : Nat} (h : Num W W' v n) (hB : B ≤ W.heap.size) : ∃ ys, RO .u64 30 W' B v ys ∧ Canon B64 ys ∧ nv B64 ys = n := by
  obtain ⟨ys, ho, hc, hn, _⟩ := h
  exact ⟨ys, Kd.R_mono (Kd.R_lower ho hB) (fun b hb => Nat.le_trans hB hb), hc, hn⟩

set_option maxRecDepth 100000 in
set_option maxHeartbeats 4000000 in
theorem divmod_ok (va vb : Value) (a b : List Int) (w : World) (ha : RL .u64 w va a) (hb : RL .u64 w vb b) (da : Dig B64 a) (db : Dig B64 b) (la : a.length ≤ 80) (lb : b.length ≤ 80) (hpos : 0 < nv B64 b) :
    Calls Try.prog 25 #[va, vb] w fun e w' => ∃ vq vr, e = .returned (.tuple #[vq, vr, .int .i64 0]) ∧ Num w w' vq (nv B64 a / nv B64 b) ∧ Num w w' vr (nv B64 a % nv B64 b) ∧ Below w.heap.size w w' := by
  obtain ⟨A, ca, rfl, hca, hCa⟩ := ha
  obtain ⟨A', cb, rfl, hcb, hCb⟩ := hb
  have HA := Aside0.mk (show RL .u64 w (.slice A a.length ca) a from ⟨A, ca, rfl, hca, hCa⟩)
  have HB := Aside0.mk (show RL .u64 w (.slice A' b.length cb) b from ⟨A', cb, rfl, hcb, hCb⟩)
  have DA := Aside0.mk da
  have DB := Aside0.mk db
  have HP := Aside0.mk hpos
  clear hCa hCb da db hca hcb hpos
  have hlong : decide (80 < a.length ∨ 80 < b.length) = false := by simp; omega
  refine (callsIn_wide (n := 5)).1 ?_
  refine callsIn_of_wp_marks Try.func25 rfl trivial ?_ rfl
  simp only [Try.ntmps25, List.size_toArray, List.length_cons, List.length_nil, Nat.reduceAdd, Nat.reduceSub, Array.replicate_succ, Array.replicate_zero, List.push_toArray, List.append_toArray, List.nil_append, List.cons_append]
  gi_wp2_with fail
  refine ⟨trivial, (callsIn_wide.2 (long2_at A A' a.length b.length ca cb (w.heap.size + 1) _ (by have := heap_alloc_new (w.alloc (.cells #[.slice A' b.length cb] 31)) (.cells #[.slice A a.length ca, .slice A' b.length cb] 31); simpa using this) (by omega) (by omega))).mono ?_⟩
  rintro e w1 ⟨rfl, hw1⟩
  have HW1 := Aside0.mk (show Below w.heap.size w w1 by rw [hw1]; exact below_alloc (below_alloc1 _ _) _)
  have HB1 := Aside0.mk (show w1.heap[w.heap.size]? = some (.cells #[.slice A' b.length cb] 31 (0, 0)) by rw [hw1]; exact heap_alloc_old (heap_alloc_new w _))
  clear hw1
  have hc3 := cell_of_one HB1.out
  gi_wp2_with fail
  refine ⟨trivial, (callsIn_wide.2 (of_calls _ b _ (HB.out.below HW1.out) DB.out (by omega))).mono ?_⟩
  rintro e w2 ⟨v1, y, rfl, o1, c1, n1, l1, b1⟩
  have hy : y ≠ [] := by
    intro e
    rw [e] at n1
    have := HP.out
    rw [← n1] at this
    simp [nv] at this
  obtain ⟨A1, k1, rfl⟩ := Kd.R_slice o1
  have t0 : ((y.length : Int) == 0) = false := by rw [beq_eq_false_iff_ne]; have := List.length_pos_iff.2 hy; omega
  have HW2 := Aside0.mk (HW1.out.trans (b1.mono HW1.out.size))
  have HB2 := Aside0.mk ((b1.block _ (lt_of_block HB1.out)).trans HB1.out)
  clear o1 c1 n1 l1 b1 hy hc3 HW1 HB1
  have hmk := print_make (P := Try.prog) 31 30 .u64 8 Try.underlying31 info30 (by omega) a.length (by omega)
  gi_wp2_with fail
  clear t0 hmk
  obtain ⟨gq, hgq⟩ : ∃ gq, w2.heap.size = gq := ⟨_, rfl⟩
  refine ⟨trivial, (callsIn_wide.2 (down_calls A a.length ca _)).mono ?_⟩
  rintro e w4 ⟨rfl, hw4⟩
  have E0 : RO .u64 30 w4 w.heap.size (.slice (some ⟨gq, 0, none⟩) a.length a.length) (List.replicate a.length 0) := by
    have h1 := own_made_of' (enc := Value.int .u64) (d := (0 : Int)) w2 w.heap.size 30 a.length HW2.out.size (by omega)
    have h2 := Kd.R_of_own (h1 := fun _ => rfl) h1 (fun k hk => own_base h1 k hk)
    rw [hgq] at h2
    rw [hw4]
    exact Kd.R_alloc (Kd.R_alloc (Kd.R_alloc h2 _) _) _
  have E1 : w4.heap[gq + 1]? = some (.cells #[.slice (some ⟨gq, 0, none⟩) a.length a.length] 31 (0, 0)) := by
    rw [hw4]
    have h := heap_alloc_new (w2.alloc (.cells (madeCells #[.int .u64 0] a.length) 30)) (.cells #[.slice (some ⟨w2.heap.size, 0, none⟩) a.length a.length] 31)
    rw [World.size_alloc, hgq] at h
    rw [hgq]
    exact heap_alloc_old (heap_alloc_old h)
  have E2 : w4.heap[gq + 1 + 1]? = some (.cells #[.slice none 0 0] 31 (0, 0)) := by
    rw [hw4]
    have h := heap_alloc_new ((w2.alloc (.cells (madeCells #[.int .u64 0] a.length) 30)).alloc (.cells #[.slice (some ⟨w2.heap.size, 0, none⟩) a.length a.length] 31)) (.cells #[.slice none 0 0] 31)
    rw [World.size_alloc, World.size_alloc, hgq] at h
    rw [hgq]
    exact heap_alloc_old h
  have E3 : w4.heap[gq + 1 + 1 + 1]? = some (.cells #[.slice A a.length ca] 31 (0, 0)) := by
    rw [hw4]
    have h := heap_alloc_new (((w2.alloc (.cells (madeCells #[.int .u64 0] a.length) 30)).alloc (.cells #[.slice (some ⟨w2.heap.size, 0, none⟩) a.length a.length] 31)).alloc (.cells #[.slice none 0 0] 31)) (.cells #[.slice A a.length ca] 31)
    rw [World.size_alloc, World.size_alloc, World.size_alloc, hgq] at h
    rw [hgq]
    exact h
  have E4 : w4.heap[w.heap.size]? = some (.cells #[.slice A' b.length cb] 31 (0, 0)) := by
    rw [hw4]; exact heap_alloc_old (heap_alloc_old (heap_alloc_old (heap_alloc_old HB2.out)))
  have E5 : Below w.heap.size w w4 := by
    rw [hw4]
    have := HW2.out.size
    exact (((HW2.out.alloc this _).alloc (by simp; omega) _).alloc (by simp; omega) _).alloc (by simp; omega) _
  have E6 : w.heap.size < gq := by rw [← hgq]; exact lt_of_block HB2.out
  have E7 : w4.heap.size = gq + 4 := by rw [hw4]; simp [hgq]
  have hBs : (((w2.alloc (.cells (madeCells #[.int .u64 0] a.length) 30)).alloc (.cells #[.slice (some ⟨w2.heap.size, 0, none⟩) a.length a.length] 31)).alloc (.cells #[.slice none 0 0] 31)).heap.size = gq + 1 + 1 + 1 := by simp [hgq]
  rw [hBs, hgq]
  clear hBs hw4 HW2 HB2 hgq
  have EE := Aside0.mk (And.intro E0 (And.intro E1 (And.intro E2 (And.intro E3 (And.intro E4 (And.intro E5 (And.intro E6 E7)))))))
  clear E0 E1 E2 E3 E4 E5 E6 E7
  gi_wp2_with fail
  obtain ⟨r, hr, hrl⟩ := lenN_of DA.out
  have hseq := down1_stops 4 (by omega) A ca a w w4 (gq + 1 + 1 + 1) HA.out DA.out (by omega) EE.out.2.2.2.2.2.1 EE.out.2.2.2.1 r hr hrl
  refine wpIn_rangeFunc_ownF rfl (by omega) (gf := 109) (lb := #[.pointer (some ⟨gq + 1 + 1 + 1, 0, none⟩)]) rfl trivial (enters_of Try.func109 (by kernel_rfl) rfl) hseq
    (fun h k => KpB.trans h k) ?kb (Below.refl _ _) (fun _ => rfl) (DivI w a b A' cb gq) (fun _ _ _ => False) (DivI.own (by have := EE.out; omega)) (fun _ _ _ _ _ h _ _ => h) ?start
    (fun x => { tmps := #[.slice A a.length ca, .slice A' b.length cb, undef, .pointer (some ⟨w.heap.size, 0, none⟩), .slice none 0 0, .slice none 0 0, .int .i64 0, .pointer (some ⟨gq + 1, 0, none⟩), .pointer (some ⟨gq + 1 + 1, 0, none⟩), .int .i64 (x.val : Int), .int .u64 (nbit (nv B64 a) x.val), .bool false, .slice A a.length ca, .slice A' b.length cb, .slice (some ⟨w.heap.size + 1, 0, none⟩) 2 2, .bool false, .bool false, .slice A' b.length cb, .slice A1 y.length k1, .int .i64 y.length, .bool false, .slice A a.length ca, .int .i64 a.length, .slice (some ⟨gq, 0, none⟩) a.length a.length, .slice A a.length ca, .func (.func 109) #[] #[.pointer (some ⟨gq + 1 + 1 + 1, 0, none⟩)], .int .i64 (x.val : Int), .int .u64 (nbit (nv B64 a) x.val), undef, undef, undef, undef, undef, undef, undef, undef, undef, undef, undef, undef, undef, undef, undef, undef, undef, undef, undef, undef, undef, undef, undef, undef, undef, undef, undef], defers := [] }) ?assign ?body ?done ?stop
  case kb =>
    intro W l o o' hl h hc hw
    have := EE.out
    exact ⟨belowK_b (w := w4) (by omega) W l o o' hl h hc hw, World.putObj_heap_other (by omega)⟩
  case start =>
    obtain ⟨h1, h2, h3, h4, h5, h6, h7, h8⟩ := EE.out
    exact ⟨.slice none 0 0, [], h1, h2, h3, h5, Kd.R_nil _ _ _ _ _, canon_nil, rfl, h6, by omega⟩
  case assign =>
    intro l x W K hK
    gi_wp2
    exact hK
  case body =>
    rintro l pre x W ⟨vr, ys, i1, i2, i3, i4, i5, i6, i7, i8, i9⟩ _
    have hlb := nv_lt_max (B := B64) (n := 80) B64_pos DB.out lb
    have hok := DivOk.all (b := nv B64 b) HP.out a.length (pre.map fun x => (x.val, nbit (nv B64 a) x.val)) (fun z hz => by
      simp only [List.mem_map] at hz
      obtain ⟨j, _, rfl⟩ := hz
      exact nbit_cases _ _)
    change DivOk (nv B64 b) a.length (divSt a b pre) at hok
    have S0 := Aside0.mk (show DSt w W a.length (.slice A' b.length cb) gq (divSt a b pre).1 W vr ys from ⟨i1, i2, i3, i4, i5, i6, i8, i9, KeepsOthers.refl W, rfl, EE.out.2.2.2.2.2.2.1, Below.refl _ _⟩)
    obtain ⟨w1b, hw1b⟩ : ∃ z, nbit (nv B64 a) x.val = z := ⟨_, rfl⟩
    have hbit := Aside0.mk (hw1b ▸ nbit_cases (nv B64 a) x.val)
    have hwb := Aside0.mk hw1b
    have hnum := Aside0.mk (And.intro i7 (And.intro hok hlb))
    have hlen : ys.length ≤ 80 := canon_len (by decide) i6 (by rw [i7]; have := hok.2.2; omega)
    obtain ⟨A8, c8, rfl⟩ := Kd.R_slice i5
    have c2 := cell_of_one i3
    have f2 := free_of_one i3
    rw [hw1b]
    clear i1 i2 i3 i4 i5 i6 i7 i8 i9 hw1b hlb hok
    gi_wp2_with fail
    refine ⟨trivial, (CallsIn.inRound l (callsIn_wide.2 (eachAdd_calls _ _ ys ys W (RL.of_R S0.out.r) (RL.of_R S0.out.r) S0.out.canon.1 S0.out.canon.1 (by omega) (by omega)))).mono ?_⟩
    rintro e W1 ⟨v1, rfl, hn, hb⟩
    obtain ⟨ys1, ho1, hc1, hn1⟩ := hn.own S0.out.size
    obtain ⟨A9, c9, rfl⟩ := Kd.R_slice ho1
    have S1 := Aside0.mk ((S0.out.step hb).store ho1 hc1)
    have N1 := Aside0.mk hn1
    have hl1 : ys1.length ≤ 81 := canon_len (by decide) hc1 (by
      obtain ⟨h1, h2, h3⟩ := hnum.out
      have := h2.2.2
      have e : B64 ^ 81 = B64 ^ 80 * B64 := Int.pow_succ _ _
      have : B64 ^ 80 * 2 ≤ B64 ^ 80 * B64 := Int.mul_le_mul_of_nonneg_left (by decide) (Int.le_of_lt (pow_pos' B64_pos _))
      omega)
    have c2' := cell_of_one (S0.out.step hb).b8
    have f2' := free_of_one (S0.out.step hb).b8
    clear hn hb c2 f2 ho1 hc1 hn1
    gi_wp2_with fail
    have hdw : Dig B64 [w1b] := Dig.nil.cons (by have := hbit.out; rw [B64_eq]; omega)
    refine ⟨trivial, (CallsIn.inRound l (callsIn_wide.2 (eachAdd_calls _ _ ys1 [w1b] _ (RL.of_R (S1.out.step (below_alloc1 _ _)).r) (RL.lit1 (e := 30) (by simpa using heap_alloc_new (W1.setCell ⟨gq + 1 + 1, 0, none⟩ (.slice A9 ys1.length c9)) (.cells #[.int .u64 w1b] 30))) S1.out.canon.1 hdw (by omega) (by simp)))).mono ?_⟩
    rintro e W2 ⟨v2, rfl, hn, hb⟩
    obtain ⟨ys2, ho2, hc2, hn2⟩ := hn.own (S1.out.step (below_alloc1 _ (.cells #[.int .u64 w1b] 30))).size
    obtain ⟨A10, c10, rfl⟩ := Kd.R_slice ho2
    have T2 := (S1.out.step (below_alloc1 _ (.cells #[.int .u64 w1b] 30))).step hb
    have S2 := Aside0.mk (T2.store ho2 hc2)
    have N2 := Aside0.mk (show nv B64 ys2 = 2 * (divSt a b pre).2 + w1b by rw [hn2, N1.out, hnum.out.1]; simp [nv]; omega)
    have hl2 : ys2.length ≤ 81 := canon_len (by decide) hc2 (by
      obtain ⟨h1, h2, h3⟩ := hnum.out
      have := h2.2.2
      have := hbit.out
      have e : B64 ^ 81 = B64 ^ 80 * B64 := Int.pow_succ _ _
      have : B64 ^ 80 * 3 ≤ B64 ^ 80 * B64 := Int.mul_le_mul_of_nonneg_left (by decide) (Int.le_of_lt (pow_pos' B64_pos _))
      have := pow_pos' B64_pos 80
      rw [N2.out]
      omega)
    have c2'' := cell_of_one T2.b8
    have f2'' := free_of_one T2.b8
    have c3'' := cell_of_one T2.b3
    have hne : w.heap.size ≠ gq + 1 + 1 := by have := S2.out.hq; omega
    clear hn hb c2' f2' ho2 hc2 hn2 hdw T2
    gi_wp2_with fail
    refine ⟨trivial, (CallsIn.inRound l (callsIn_wide.2 (cmp_calls _ _ ys2 b _ (RL.of_R S2.out.r) (HB.out.below S2.out.below) S2.out.canon.1 DB.out (by omega) (by omega)))).mono ?_⟩
    rintro e W3 ⟨rfl, hb⟩
    have S3 := Aside0.mk (S2.out.step hb)
    clear hb c2'' f2'' c3''
    by_cases hc : nv B64 b ≤ nv B64 ys2
    · obtain ⟨rr, hrr, hr0⟩ : ∃ rr, cmpI (nv B64 ys2) (nv B64 b) = rr ∧ 0 ≤ rr := ⟨_, rfl, by rcases cmpI_cases (nv B64 ys2) (nv B64 b) with ⟨h, _⟩ | ⟨_, e⟩ | ⟨_, e⟩ <;> omega⟩
      rw [hrr]
      have HC := Aside0.mk hc
      have c4 := cell_of_one S3.out.b8
      have c5 := cell_of_one S3.out.b3
      clear hrr hc
      gi_wp2_with fail
      refine ⟨trivial, (CallsIn.inRound l (callsIn_wide.2 (eachSub_calls _ _ ys2 b _ (RL.of_R S3.out.r) (HB.out.below S3.out.below) S3.out.canon.1 DB.out (by omega) (by omega) HC.out))).mono ?_⟩
      rintro e W4 ⟨v3, rfl, hn, hb⟩
      obtain ⟨ys3, ho3, hc3, hn3⟩ := hn.own S3.out.size
      obtain ⟨A11, c11, rfl⟩ := Kd.R_slice ho3
      have T3 := S3.out.step hb
      have S4 := Aside0.mk (T3.store ho3 hc3)
      have N3 := Aside0.mk hn3
      have c6 := cell_of_one T3.b8
      have f6 := free_of_one T3.b8
      have c7 := cell_of_one T3.b7
      clear hn hb c4 c5 ho3 hc3 hn3 T3
      gi_wp2_with fail
      clear c6 f6 c7
      have S5 := S4.out
      clear S4
      generalize W4.setCell ⟨gq + 1 + 1, 0, none⟩ (.slice A11 ys3.length c11) = W5 at S5 ⊢
      have hxl := x.isLt
      obtain ⟨iv, hiv⟩ : ∃ iv : Nat, x.val = iv := ⟨_, rfl⟩
      rw [hiv] at hxl ⊢
      have c7 := cell_of_one S5.b7
      obtain ⟨J, hJ⟩ : ∃ J : Nat, iv / 64 = J := ⟨_, rfl⟩
      obtain ⟨S, hS⟩ : ∃ S : Nat, iv % 64 = S := ⟨_, rfl⟩
      obtain ⟨qv, hqv⟩ : ∃ qv, (divSt a b pre).1.getD J 0 = qv := ⟨_, rfl⟩
      have hql : (divSt a b pre).1.length = a.length := hnum.out.2.1.1
      obtain ⟨c8', f8'⟩ := Kd.R_celln 0 S5.q (J : Int) (by omega) (by omega)
      rw [Int.toNat_natCast] at c8' f8'
      rw [show rdOf 0 (divSt a b pre).1 (J : Int) = qv from hqv] at c8'
      have S6 := Aside0.mk S5
      have HQ := Aside0.mk (And.intro hqv (And.intro hql (And.intro hiv (And.intro hJ hS))))
      have hi1 : (J : Int) < (a.length : Int) := by omega
      have hi3 : (0 : Int) ≤ (J : Int) := by omega
      have hd1 : Int.tdiv (iv : Int) 64 = (J : Int) := by rw [Int.tdiv_eq_ediv_of_nonneg (by omega)]; omega
      have hd2 : IntKind.i64.wrap (J : Int) = (J : Int) := by rw [IntKind.wrap_i64]; omega
      have hd3 : Int.tmod (iv : Int) 64 = (S : Int) := by rw [Int.tmod_eq_emod_of_nonneg (by omega)]; omega
      have hd4 : IntKind.i64.wrap (S : Int) = (S : Int) := by rw [IntKind.wrap_i64]; omega
      have hd5 : (0 : Int) ≤ (S : Int) := by omega
      have hd6 : S < 64 := by omega
      clear S5 hqv hql hiv hxl hJ hS
      have hmx : Try.prog.follows .mixedOrders = true := by kernel_rfl
      have hpow : IntKind.u64.wrap (2 ^ S) = ((2 ^ S : Nat) : Int) := by
        have := Nat.pow_lt_pow_right (a := 2) (by omega) hd6
        have hp2 : (2 : Int) ^ S = ((2 ^ S : Nat) : Int) := (Int.natCast_pow 2 S).symm
        rw [IntKind.wrap_u64, hp2]
        exact Int.emod_eq_of_lt (Int.natCast_nonneg _) (Int.ofNat_lt.2 (Nat.lt_of_lt_of_eq this (by decide)))
      obtain ⟨z, hz⟩ : ∃ z, bits .or .u64 qv (IntKind.u64.wrap (2 ^ S)) = z := ⟨_, rfl⟩
      have S7 := Aside0.mk (S6.out.setq J z)
      have R := fun Q => reg14 l (5 - 1 - 1) Q W5 (gq + 1) gq iv J S a.length a.length qv z
      simp only [opsOf, Try.f25, opsIn, Option.bind_some, Option.getD_some, Nat.reduceEqDiff, Nat.reduceBEq, ↓reduceIte, Bool.false_eq_true, if_false] at R
      refine R _ _ _ _ _ _ _ _ _ _ _ _ _ _ _ _ _ _ _ _ _ _ _ _ _ _ _ _ _ _ _ _ _ _ _ _ _ _ _ _ _ _ _ _ _ _ _ _ _ _ _ _ _ _ c7 c8' f8' hi1 hi3 hd1 hd2 hd3 hd4 hd5 hd6 hz hmx ?_
      clear R
      intro tmps
      simp only [Exit.inBlock]
      obtain ⟨hqv, hql, hiv, hJ, hS⟩ := HQ.out
      have e : divSt a b (pre ++ [x]) = ((divSt a b pre).1.set J z, nv B64 ys3) := by
        rw [N3.out, N2.out, ← hz, hpow, ← hqv, ← hS, ← hJ, ← hiv]
        have := HC.out
        rw [N2.out] at this
        unfold divSt at *
        rw [List.map_append, List.map_cons, List.map_nil, divAll_snoc]
        unfold divStep
        dsimp only
        rw [hwb.out, if_pos this]
      have S8 := S7.out.step (below_drew (Below.refl _ _))
      exact ⟨S8.keeps, ⟨S8.kb, S8.bs⟩, _, ys3, by rw [e]; exact S8.q, S8.b7, S8.b8, S8.b3, S8.r, S8.canon, by rw [e], S8.below, S8.size⟩
    · rw [cmpI_lt (by omega)]
      have HC := Aside0.mk hc
      clear hc
      gi_wp2_with fail
      have e : divSt a b (pre ++ [x]) = ((divSt a b pre).1, nv B64 ys2) := by
        unfold divSt at *
        rw [List.map_append, List.map_cons, List.map_nil, divAll_snoc]
        unfold divStep
        dsimp only
        rw [hwb.out, ← N2.out, if_neg (by have := HC.out; omega)]
      exact ⟨S3.out.keeps, ⟨S3.out.kb, S3.out.bs⟩, _, ys2, by rw [e]; exact S3.out.q, S3.out.b7, S3.out.b8, S3.out.b3, S3.out.r, S3.out.canon, by rw [e], S3.out.below, S3.out.size⟩
  case done =>
    rintro D xs W hD rfl ⟨vr, ys, i1, i2, i3, i4, i5, i6, i7, i8, i9⟩ hK
    obtain ⟨A8, c8, rfl⟩ := Kd.R_slice i5
    have hfin := divAll_done (nv_nonneg B64_pos DA.out) HP.out a.length r hrl (by
      have h1 := hr.1
      have h2 := nv_nonneg B64_pos DA.out
      omega)
    have hst : divSt a b (downsF (64 * a.length) r hrl r (Nat.le_refl _)) = divAll (nv B64 b) a.length (downs (nv B64 a) r r) := by
      unfold divSt; rw [downsF_map]
    rw [hst] at i1 i7
    obtain ⟨q, hq⟩ : ∃ q, (divAll (nv B64 b) a.length (downs (nv B64 a) r r)).1 = q := ⟨_, rfl⟩
    rw [hq] at i1 hfin
    have hok := DivOk.all (b := nv B64 b) HP.out a.length (downs (nv B64 a) r r) (fun z hz => by
      simp only [downs, List.mem_map] at hz
      obtain ⟨j, _, rfl⟩ := hz
      exact nbit_cases _ _)
    have hdq : Dig B64 q ∧ q.length = a.length := by rw [← hq]; exact ⟨hok.2.1, hok.1⟩
    have II := Aside0.mk (And.intro i1 (And.intro i5 (And.intro i6 (And.intro i8 (And.intro hdq (And.intro hfin (And.intro i7 (And.intro hK (And.intro hD i9)))))))))
    have B1 := Aside0.mk i2
    have B2 := Aside0.mk i3
    have c1 := cell_of_one i2
    have c2 := cell_of_one i3
    clear i1 i2 i3 i4 i5 i6 i7 i8 i9 hfin hst hq hok hdq hK
    gi_wp2_with fail
    have hmx : Try.prog.follows .mixedOrders = true := by kernel_rfl
    refine wpIn_strict ?_
    gi_region_with_o ((refine ⟨trivial, (callsIn_wide.2 (of_calls _ q _ (RL.of_R (Kd.R_drew II.out.1)) II.out.2.2.2.2.1.1 (by have := II.out.2.2.2.2.1.2; omega))).mono ?_⟩; rintro e W1 ⟨v1, zs, rfl, o1, d1, n1, l1, b1⟩; have d2 := cell_of_one ((b1.block _ (lt_of_block B2.out)).trans B2.out); have FF := Aside0.mk (And.intro o1 (And.intro d1 (And.intro n1 (And.intro l1 b1)))); clear o1 d1 n1 l1 b1))
    all_goals simp only [strict]
    all_goals gi_wp2_with fail
    all_goals
      obtain ⟨i1, i5, i6, i8, hdq, hfin, i7, hK, hD', i9⟩ := II.out
      obtain ⟨o1, d1, n1, l1, b1⟩ := FF.out
      have e6 := EE.out.2.2.2.2.2.2.1
      have e7 := EE.out.2.2.2.2.2.2.2
      have hb := below_then i8 i8.size (Below.trans (below_drew (Below.refl _ _)) b1)
      have hlt := lt_of_block hK
      have hK' : W1.heap[D]? = some (.deferred (some [])) := (b1.block D (show D < W.drew.heap.size from hlt)).trans hK
      refine ⟨by simp, .inl ⟨D, _, rfl, run_takeDeferred hK', ?_⟩⟩
      have hg : W1.grownBy (W1.putObj D (.deferred none)) (some D) := grownBy_putObj' W1 D _
      have hr : ∀ r, some D = some r → ∃ o : Obj, W1.heap[r]? = some o ∧ o.isCells = false := fun r e => by cases e; exact ⟨_, hK', rfl⟩
      refine ⟨_, results_tmp3 rfl _ _ _, v1, .slice A8 ys.length c8, rfl, ?_, ?_, ?_⟩
      · refine ⟨zs, RO.own (Kd.R_mono (Kd.R_lower o1 i8.size) (fun b hb => Nat.le_trans i8.size hb)) hg hr, d1, by rw [n1, hfin.1], by omega⟩
      · refine ⟨ys, RO.own (Kd.R_below (Kd.R_drew (Kd.R_mono (Kd.R_lower i5 (by omega)) (fun b hb => by omega))) b1) hg hr, i6, by rw [i7, hfin.2], ?_⟩
        have h1 := nv_lt_max (B := B64) (n := 80) B64_pos DB.out lb
        have h2 := Int.emod_lt_of_pos (nv B64 a) HP.out
        have := canon_len (n := 80) (by decide) i6 (by rw [i7, hfin.2]; omega)
        omega
      · exact hb.grown hg hb.size (fun k e => by cases e; omega)
  case stop => exact fun _ _ _ _ _ _ h _ => h.elim

set_option maxRecDepth 100000 in
theorem divmod_zero (va vb : Value) (a b : List Int) (w : World) (ha : RL .u64 w va a) (hb : RL .u64 w vb b) (db : Dig B64 b) (la : a.length ≤ 80) (lb : b.length ≤ 80) (hz : nv B64 b = 0) :
    Calls Try.prog 25 #[va, vb] w fun e w' => e = .returned (.tuple #[.slice none 0 0, .slice none 0 0, .int .i64 20]) ∧ Below w.heap.size w w' := by
  obtain ⟨A, ca, rfl, hca, hCa⟩ := ha
  obtain ⟨A', cb, rfl, hcb, hCb⟩ := hb
  have HB := Aside0.mk (show RL .u64 w (.slice A' b.length cb) b from ⟨A', cb, rfl, hcb, hCb⟩)
  have DB := Aside0.mk db
  have HZ := Aside0.mk hz
  clear hCa hCb db hca hcb hz
  have hlong : decide (80 < a.length ∨ 80 < b.length) = false := by simp; omega
  refine (callsIn_wide (n := 5)).1 ?_
  refine callsIn_of_wp_marks Try.func25 rfl trivial ?_ rfl
  simp only [Try.ntmps25, List.size_toArray, List.length_cons, List.length_nil, Nat.reduceAdd, Nat.reduceSub, Array.replicate_succ, Array.replicate_zero, List.push_toArray, List.append_toArray, List.nil_append, List.cons_append]
  gi_wp2_with fail
  refine ⟨trivial, (callsIn_wide.2 (long2_at A A' a.length b.length ca cb (w.heap.size + 1) _ (by have := heap_alloc_new (w.alloc (.cells #[.slice A' b.length cb] 31)) (.cells #[.slice A a.length ca, .slice A' b.length cb] 31); simpa using this) (by omega) (by omega))).mono ?_⟩
  rintro e w1 ⟨rfl, hw1⟩
  have HW1 := Aside0.mk (show Below w.heap.size w w1 by rw [hw1]; exact below_alloc (below_alloc1 _ _) _)
  have HB1 := Aside0.mk (show w1.heap[w.heap.size]? = some (.cells #[.slice A' b.length cb] 31 (0, 0)) by rw [hw1]; exact heap_alloc_old (heap_alloc_new w _))
  clear hw1
  have hc3 := cell_of_one HB1.out
  gi_wp2_with fail
  refine ⟨trivial, (callsIn_wide.2 (of_calls _ b _ (HB.out.below HW1.out) DB.out (by omega))).mono ?_⟩
  rintro e w2 ⟨v1, y, rfl, o1, c1, n1, l1, b1⟩
  obtain rfl : y = [] := (canon_nv_zero B64_pos c1).1 (by rw [n1, HZ.out])
  obtain ⟨A1, k1, rfl⟩ := Kd.R_slice o1
  have HW2 := Aside0.mk (HW1.out.trans (b1.mono HW1.out.size))
  clear o1 c1 n1 l1 b1 hc3 HW1 HB1
  gi_wp2_with fail
  exact ⟨_, results_tmp3 rfl _ _ _, rfl, HW2.out⟩

set_option maxRecDepth 100000 in
theorem divmod_long (va vb : Value) (a b : List Int) (w : World) (ha : RL .u64 w va a) (hb : RL .u64 w vb b) (la : a.length ≤ 1000) (lb : b.length ≤ 1000) (hl : 80 < a.length ∨ 80 < b.length) :
    Calls Try.prog 25 #[va, vb] w fun e w' => e = .returned (.tuple #[.slice none 0 0, .slice none 0 0, .int .i64 11]) ∧ Below w.heap.size w w' := by
  obtain ⟨A, ca, rfl, hca, hCa⟩ := ha
  obtain ⟨A', cb, rfl, hcb, hCb⟩ := hb
  clear hCa hCb hca hcb
  have hlong : decide (80 < a.length ∨ 80 < b.length) = true := by simpa using hl
  clear hl
  refine (callsIn_wide (n := 5)).1 ?_
  refine callsIn_of_wp_marks Try.func25 rfl trivial ?_ rfl
  simp only [Try.ntmps25, List.size_toArray, List.length_cons, List.length_nil, Nat.reduceAdd, Nat.reduceSub, Array.replicate_succ, Array.replicate_zero, List.push_toArray, List.append_toArray, List.nil_append, List.cons_append]
  gi_wp2_with fail
  refine ⟨trivial, (callsIn_wide.2 (long2_at A A' a.length b.length ca cb (w.heap.size + 1) _ (by have := heap_alloc_new (w.alloc (.cells #[.slice A' b.length cb] 31)) (.cells #[.slice A a.length ca, .slice A' b.length cb] 31); simpa using this) (by omega) (by omega))).mono ?_⟩
  rintro e w1 ⟨rfl, hw1⟩
  have HW1 := Aside0.mk (show Below w.heap.size w w1 by rw [hw1]; exact below_alloc (below_alloc1 _ _) _)
  clear hw1
  gi_wp2_with fail
  exact ⟨_, results_tmp3 rfl _ _ _, rfl, HW1.out⟩
end Go.Proofs.Ytokadjfakncdfaa
end

section
set_option linter.unusedVariables false
set_option linter.unusedSimpArgs false
namespace Go.Proofs.Ytokadjfakncdfaa
open Go.RowKit Go.Proofs.YtokadjfakncdfaaW.PrintWords Go.Proofs.YtokadjfakncdfaaW.PrintLast Go.Proofs.YtokadjfakncdfaaW.PrintMore

/-- v reads as words of the number n, at most L of them. -/
structure DN (w : World) (v : Value) (n : Int) (L : Nat) : Prop where
  mk ::
  out : ∃ ys, RL .u64 w v ys ∧ Dig B64 ys ∧ nv B64 ys = n ∧ ys.length ≤ L
/-- The same, in form. -/
structure CN (w : World) (v : Value) (n : Int) (L : Nat) : Prop where
  mk ::
  out : ∃ ys, RL .u64 w v ys ∧ Canon B64 ys ∧ nv B64 ys = n ∧ ys.length ≤ L

theorem CN.dn {w : World} {v : Value} {n : Int} {L : Nat} (h : CN w v n L) : DN w v n L := by
  obtain ⟨ys, h1, h2, h3, h4⟩ := h.out
  exact ⟨ys, h1, h2.1, h3, h4⟩
theorem DN.below {w w' : World} {v : Value} {n : Int} {L : Nat} (h : DN w v n L) (hb : Below w.heap.size w w') : DN w' v n L := by
  obtain ⟨ys, h1, h2, h3, h4⟩ := h.out
  exact ⟨ys, h1.below hb, h2, h3, h4⟩
theorem CN.below {w w' : World} {v : Value} {n : Int} {L : Nat} (h : CN w v n L) (hb : Below w.heap.size w w') : CN w' v n L := by
  obtain ⟨ys, h1, h2, h3, h4⟩ := h.out
  exact ⟨ys, h1.below hb, h2, h3, h4⟩
theorem DN.mono {w : World} {v : Value} {n : Int} {L L' : Nat} (h : DN w v n L) (hl : L ≤ L') : DN w v n L' := by
  obtain ⟨ys, h1, h2, h3, h4⟩ := h.out
  exact ⟨ys, h1, h2, h3, Nat.le_trans h4 hl⟩
theorem DN.nonneg {w : World} {v : Value} {n : Int} {L : Nat} (h : DN w v n L) : 0 ≤ n := by
  obtain ⟨ys, h1, h2, h3, h4⟩ := h.out
  rw [← h3]; exact nv_nonneg B64_pos h2
theorem DN.lt {w : World} {v : Value} {n : Int} {L : Nat} (h : DN w v n L) : n < B64 ^ L := by
  obtain ⟨ys, h1, h2, h3, h4⟩ := h.out
  have := nv_lt B64_pos h2
  have := pow_le_pow' B64_pos h4
  omega
theorem Num.cn {w w' : World} {v : Value} {n : Int} (h : Num w w' v n) (L : Nat) (hn : n < B64 ^ L) : CN w' v n L := by
  obtain ⟨ys, h1, h2, h3, h4⟩ := h
  exact ⟨ys, RL.of_R h1, h2, h3, canon_len (by decide) h2 (by omega)⟩
theorem CN.lits {e : Nat} {W : World} {g : Nat} (xs : List Int) (h : W.heap[g]? = some (.cells (xs.map (Value.int .u64)).toArray e (0, 0))) (L : Nat) (hl : xs.length ≤ L) (hL : L ≤ 1000) (hd : Dig B64 xs) (hc : xs.getLast? ≠ some 0) :
    CN W (.slice (some ⟨g, 0, none⟩) xs.length xs.length) (nv B64 xs) L := ⟨xs, RL.lits h (by omega), ⟨hd, hc⟩, rfl, hl⟩
theorem DN.lits {e : Nat} {W : World} {g : Nat} (xs : List Int) (h : W.heap[g]? = some (.cells (xs.map (Value.int .u64)).toArray e (0, 0))) (L : Nat) (hl : xs.length ≤ L) (hL : L ≤ 1000) (hd : Dig B64 xs) :
    DN W (.slice (some ⟨g, 0, none⟩) xs.length xs.length) (nv B64 xs) L := ⟨xs, RL.lits h (by omega), hd, rfl, hl⟩

theorem add_n {w : World} {va vb : Value} {x y : Int} {la lb : Nat} (ha : DN w va x la) (hb : DN w vb y lb) (h1 : la ≤ 80) (h2 : lb ≤ 80) :
    Calls Try.prog 20 #[va, vb] w fun e w' => ∃ v', e = .returned (.tuple #[v', .int .i64 0]) ∧ CN w' v' (x + y) (max la lb + 1) ∧ Below w.heap.size w w' := by
  have e1 := ha.lt
  have e2 := hb.lt
  obtain ⟨xs, a1, a2, rfl, a4⟩ := ha.out
  obtain ⟨ys, b1, b2, rfl, b4⟩ := hb.out
  refine (add_ok va vb xs ys w a1 b1 a2 b2 (by omega) (by omega)).mono ?_
  rintro e w' ⟨v', he, hn, hb'⟩
  refine ⟨v', he, hn.cn _ ?_, hb'⟩
  have h3 := pow_le_pow' B64_pos (Nat.le_max_left la lb)
  have h4 := pow_le_pow' B64_pos (Nat.le_max_right la lb)
  have h5 := pow_pos' B64_pos (max la lb)
  rw [Int.pow_succ, B64_eq] at *
  omega
theorem mul_n {w : World} {va vb : Value} {x y : Int} {la lb : Nat} (ha : DN w va x la) (hb : DN w vb y lb) (h1 : la ≤ 80) (h2 : lb ≤ 80) :
    Calls Try.prog 22 #[va, vb] w fun e w' => ∃ v', e = .returned (.tuple #[v', .int .i64 0]) ∧ CN w' v' (x * y) (la + lb) ∧ Below w.heap.size w w' := by
  have e1 := ha.lt
  have e2 := hb.lt
  have e3 := ha.nonneg
  have e4 := hb.nonneg
  obtain ⟨xs, a1, a2, rfl, a4⟩ := ha.out
  obtain ⟨ys, b1, b2, rfl, b4⟩ := hb.out
  refine (mul_ok va vb xs ys w a1 b1 a2 b2 (by omega) (by omega)).mono ?_
  rintro e w' ⟨v', he, hn, hb'⟩
  refine ⟨v', he, hn.cn _ ?_, hb'⟩
  have h5 := pow_pos' B64_pos la
  rw [Int.pow_add]
  have h6 := Int.mul_le_mul_of_nonneg_left (Int.le_of_lt e2) e3
  have h7 := Int.mul_lt_mul_of_pos_right e1 (pow_pos' B64_pos lb)
  exact Int.lt_of_le_of_lt h6 h7
theorem sub_n {w : World} {va vb : Value} {x y : Int} {la lb : Nat} (ha : DN w va x la) (hb : DN w vb y lb) (h1 : la ≤ 80) (h2 : lb ≤ 80) (hle : y ≤ x) :
    Calls Try.prog 23 #[va, vb] w fun e w' => ∃ v', e = .returned (.tuple #[v', .int .i64 0]) ∧ CN w' v' (x - y) la ∧ Below w.heap.size w w' := by
  have e1 := ha.lt
  have e4 := hb.nonneg
  obtain ⟨xs, a1, a2, rfl, a4⟩ := ha.out
  obtain ⟨ys, b1, b2, rfl, b4⟩ := hb.out
  refine (sub_ok va vb xs ys w a1 b1 a2 b2 (by omega) (by omega) hle).mono ?_
  rintro e w' ⟨v', he, hn, hb'⟩
  exact ⟨v', he, hn.cn _ (by omega), hb'⟩
theorem sub_n' {w : World} {va vb : Value} {x y : Int} {la lb : Nat} (ha : DN w va x la) (hb : DN w vb y lb) (h1 : la ≤ 80) (h2 : lb ≤ 80) (hlt : x < y) :
    Calls Try.prog 23 #[va, vb] w fun e w' => e = .returned (.tuple #[.slice none 0 0, .int .i64 1]) ∧ Below w.heap.size w w' := by
  obtain ⟨xs, a1, a2, rfl, a4⟩ := ha.out
  obtain ⟨ys, b1, b2, rfl, b4⟩ := hb.out
  exact sub_less va vb xs ys w a1 b1 a2 b2 (by omega) (by omega) hlt
theorem divmod_n {w : World} {va vb : Value} {x y : Int} {la lb : Nat} (ha : DN w va x la) (hb : DN w vb y lb) (h1 : la ≤ 80) (h2 : lb ≤ 80) (hpos : 0 < y) :
    Calls Try.prog 25 #[va, vb] w fun e w' => ∃ vq vr, e = .returned (.tuple #[vq, vr, .int .i64 0]) ∧ CN w' vq (x / y) la ∧ CN w' vr (x % y) lb ∧ Below w.heap.size w w' := by
  have e1 := ha.lt
  have e2 := hb.lt
  have e3 := ha.nonneg
  obtain ⟨xs, a1, a2, rfl, a4⟩ := ha.out
  obtain ⟨ys, b1, b2, rfl, b4⟩ := hb.out
  refine (divmod_ok va vb xs ys w a1 b1 a2 b2 (by omega) (by omega) hpos).mono ?_
  rintro e w' ⟨vq, vr, he, hq, hr, hb'⟩
  refine ⟨vq, vr, he, hq.cn _ ?_, hr.cn _ ?_, hb'⟩
  · have := Int.ediv_le_self (nv B64 ys) e3
    omega
  · have := Int.emod_lt_of_pos (nv B64 xs) hpos
    omega
theorem divmod_n' {w : World} {va vb : Value} {x : Int} {la lb : Nat} (ha : DN w va x la) (hb : DN w vb 0 lb) (h1 : la ≤ 80) (h2 : lb ≤ 80) :
    Calls Try.prog 25 #[va, vb] w fun e w' => e = .returned (.tuple #[.slice none 0 0, .slice none 0 0, .int .i64 20]) ∧ Below w.heap.size w w' := by
  obtain ⟨xs, a1, a2, rfl, a4⟩ := ha.out
  obtain ⟨ys, b1, b2, hz, b4⟩ := hb.out
  exact divmod_zero va vb xs ys w a1 b1 b2 (by omega) (by omega) hz
theorem of_n {w : World} {va : Value} {x : Int} {la : Nat} (ha : DN w va x la) (h1 : la ≤ 2000) :
    Calls Try.prog 24 #[va] w fun e w' => ∃ v', e = .returned v' ∧ CN w' v' x la ∧ Below w.heap.size w w' := by
  obtain ⟨xs, a1, a2, rfl, a4⟩ := ha.out
  refine (of_calls va xs w a1 a2 (by omega)).mono ?_
  rintro e w' ⟨v', ys, he, o, c, n, l, hb'⟩
  exact ⟨v', he, ⟨ys, RL.of_R o, c, n, by omega⟩, hb'⟩
theorem same_n {w : World} {va vb : Value} {x y : Int} {la lb : Nat} (ha : CN w va x la) (hb : CN w vb y lb) (h1 : la ≤ 2000) :
    Calls Try.prog 21 #[va, vb] w fun e w' => e = .returned (.bool (decide (x = y))) ∧ Below w.heap.size w w' := by
  obtain ⟨xs, a1, a2, rfl, a4⟩ := ha.out
  obtain ⟨ys, b1, b2, rfl, b4⟩ := hb.out
  refine (same_calls va vb xs ys w a1 b1 (by omega)).mono ?_
  rintro e w' ⟨rfl, hb'⟩
  refine ⟨?_, hb'⟩
  have : decide (xs = ys) = decide (nv B64 xs = nv B64 ys) := by
    by_cases h : xs = ys
    · simp [h]
    · have : nv B64 xs ≠ nv B64 ys := fun e => h (canon_inj B64_pos a2 b2 e)
      simp [h, this]
  rw [this]
theorem same_t {w : World} {va vb : Value} {x y : Int} {la lb : Nat} (ha : CN w va x la) (hb : CN w vb y lb) (h1 : la ≤ 2000) (he : x = y) :
    Calls Try.prog 21 #[va, vb] w fun e w' => e = .returned (.bool true) ∧ Below w.heap.size w w' := by
  subst he
  refine (same_n ha hb h1).mono ?_
  rintro e w' ⟨rfl, hb'⟩
  exact ⟨by simp, hb'⟩
theorem cmp_n {w : World} {va vb : Value} {x y : Int} {la lb : Nat} (ha : DN w va x la) (hb : DN w vb y lb) (h1 : la ≤ 2000) (h2 : lb ≤ 2000) :
    Calls Try.prog 18 #[va, vb] w fun e w' => e = .returned (.int .i64 (cmpI x y)) ∧ Below w.heap.size w w' := by
  obtain ⟨xs, a1, a2, rfl, a4⟩ := ha.out
  obtain ⟨ys, b1, b2, rfl, b4⟩ := hb.out
  exact cmp_calls va vb xs ys w a1 b1 a2 b2 (by omega) (by omega)
theorem bits_n {w : World} {va : Value} {x : Int} {la : Nat} (ha : DN w va x la) (h1 : la ≤ 1000) (r : Nat) (hr : LenN x.toNat r) :
    Calls Try.prog 30 #[va] w fun e w' => e = .returned (.int .i64 r) ∧ Below w.heap.size w w' := by
  obtain ⟨xs, a1, a2, rfl, a4⟩ := ha.out
  refine (bits_calls va xs w a1 a2 (by omega)).mono ?_
  rintro e w' ⟨s, rfl, hs, _, hb'⟩
  rw [hr.uniq hs]
  exact ⟨rfl, hb'⟩
end Go.Proofs.Ytokadjfakncdfaa
end

section
set_option linter.unusedVariables false
set_option linter.unusedSimpArgs false
namespace Go.Proofs.Ytokadjfakncdfaa
open Go.RowKit Go.Proofs.YtokadjfakncdfaaW.PrintWords Go.Proofs.YtokadjfakncdfaaW.PrintLast Go.Proofs.YtokadjfakncdfaaW.PrintMore

theorem two_fst (w : World) (o o' : Obj) : ((w.alloc o).alloc o').heap[w.heap.size]? = some o := heap_alloc_old (heap_alloc_new w o)
theorem two_snd (w : World) (o o' : Obj) : ((w.alloc o).alloc o').heap[w.heap.size + 1]? = some o' := by
  have := heap_alloc_new (w.alloc o) o'
  simpa using this
theorem two_below (w : World) (o o' : Obj) : Below w.heap.size w ((w.alloc o).alloc o') := below_alloc (below_alloc1 _ _) _
theorem one_below (w : World) (o : Obj) : Below w.heap.size w (w.alloc o) := below_alloc1 _ _
theorem bon {w w1 w2 : World} (h : Below w.heap.size w w1) (h' : Below w1.heap.size w1 w2) : Below w.heap.size w w2 := h.trans (h'.mono h.size)
theorem dn1 {W : World} {g e : Nat} {x : Int} (h : W.heap[g]? = some (.cells #[.int .u64 x] e (0, 0))) (hx : 0 ≤ x ∧ x < B64) : DN W (.slice (some ⟨g, 0, none⟩) 1 1) x 1 := by
  have := DN.lits (e := e) [x] h 1 (by simp) (by omega) (Dig.nil.cons hx)
  simpa [nv] using this
theorem cn1 {W : World} {g e : Nat} {x : Int} (h : W.heap[g]? = some (.cells #[.int .u64 x] e (0, 0))) (hx : 0 < x ∧ x < B64) : CN W (.slice (some ⟨g, 0, none⟩) 1 1) x 1 := by
  have := CN.lits (e := e) [x] h 1 (by simp) (by omega) (Dig.nil.cons (by omega)) (by simp; omega)
  simpa [nv] using this
theorem dn2 {W : World} {g e : Nat} {x y : Int} (h : W.heap[g]? = some (.cells #[.int .u64 x, .int .u64 y] e (0, 0))) (hx : 0 ≤ x ∧ x < B64) (hy : 0 ≤ y ∧ y < B64) : DN W (.slice (some ⟨g, 0, none⟩) 2 2) (x + B64 * y) 2 := by
  have := DN.lits (e := e) [x, y] h 2 (by simp) (by omega) ((Dig.nil.cons hy).cons hx)
  simpa [nv] using this
theorem cn2 {W : World} {g e : Nat} {x y : Int} (h : W.heap[g]? = some (.cells #[.int .u64 x, .int .u64 y] e (0, 0))) (hx : 0 ≤ x ∧ x < B64) (hy : 0 < y ∧ y < B64) : CN W (.slice (some ⟨g, 0, none⟩) 2 2) (x + B64 * y) 2 := by
  have := CN.lits (e := e) [x, y] h 2 (by simp) (by omega) ((Dig.nil.cons (by omega)).cons hx) (by simp; omega)
  simpa [nv] using this

set_option maxRecDepth 100000 in
theorem wakes1_calls (w : World) : Calls Try.prog 19 #[] w fun e w' => e = .returned (.bool true) ∧ Below w.heap.size w w' := by
  go_enter Try.func19, Try.ntmps19
  go_wp2_with fail
  refine (add_n (dn1 (two_fst _ _ _) (by decide)) (dn1 (two_snd _ _ _) (by decide)) (by decide) (by decide)).mono ?_
  rintro e w1 ⟨v1, rfl, C1, b1⟩
  have H1 := bon (two_below _ _ _) b1
  clear b1
  go_wp2_with fail
  refine (mul_n (dn1 (two_fst _ _ _) (by decide)) (dn1 (two_snd _ _ _) (by decide)) (by decide) (by decide)).mono ?_
  rintro e w2 ⟨v2, rfl, C2, b2⟩
  have s2 := bon (two_below _ _ _) b2
  have D1 := C1.below s2
  have H2 := bon H1 s2
  clear b2 s2 C1 H1
  go_wp2_with fail
  refine (sub_n' (dn1 (two_fst _ _ _) (by decide)) (dn1 (two_snd _ _ _) (by decide)) (by decide) (by decide) (by decide)).mono ?_
  rintro e w3 ⟨rfl, b3⟩
  have s3 := bon (two_below _ _ _) b3
  have E1 := D1.below s3
  have E2 := C2.below s3
  have H3 := bon H2 s3
  clear b3 s3 D1 C2 H2
  go_wp2_with fail
  refine (divmod_n (dn1 (two_fst _ _ _) (by decide)) (dn1 (two_snd _ _ _) (by decide)) (by decide) (by decide) (by decide)).mono ?_
  rintro e w4 ⟨vq, vr, rfl, Cq, Cr, b4⟩
  have s4 := bon (two_below _ _ _) b4
  have F1 := E1.below s4
  have F2 := E2.below s4
  have H4 := bon H3 s4
  clear b4 s4 E1 E2 H3
  go_wp2_with fail
  refine (of_n (dn2 (heap_alloc_new _ _) (by decide) (by decide)) (by decide)).mono ?_
  rintro e w5 ⟨v5, rfl, C5, b5⟩
  have s5 := bon (one_below _ _) b5
  have G1 := F1.below s5
  have G2 := F2.below s5
  have G3 := Cq.below s5
  have G4 := Cr.below s5
  have H5 := bon H4 s5
  clear b5 s5 F1 F2 Cq Cr H4
  go_wp2_with fail
  refine (same_t ((C5).below (one_below _ _)) (cn1 (heap_alloc_new _ _) (by decide)) (by decide) (by decide)).mono ?_
  rintro e w6 ⟨rfl, b6⟩
  have s6 := bon (one_below _ _) b6
  have G1_6 := G1.below s6
  have G2_6 := G2.below s6
  have G3_6 := G3.below s6
  have G4_6 := G4.below s6
  have H6 := bon H5 s6
  clear b6 s6 H5 C5 G1 G2 G3 G4
  go_wp2_with fail
  refine (same_t ((G1_6).below (one_below _ _)) (cn2 (heap_alloc_new _ _) (by decide) (by decide)) (by decide) (by decide)).mono ?_
  rintro e w7 ⟨rfl, b7⟩
  have s7 := bon (one_below _ _) b7
  have G2_7 := G2_6.below s7
  have G3_7 := G3_6.below s7
  have G4_7 := G4_6.below s7
  have H7 := bon H6 s7
  clear b7 s7 H6 G1_6 G2_6 G3_6 G4_6
  go_wp2_with fail
  refine (same_t ((G2_7).below (one_below _ _)) (cn2 (heap_alloc_new _ _) (by decide) (by decide)) (by decide) (by decide)).mono ?_
  rintro e w8 ⟨rfl, b8⟩
  have s8 := bon (one_below _ _) b8
  have G3_8 := G3_7.below s8
  have G4_8 := G4_7.below s8
  have H8 := bon H7 s8
  clear b8 s8 H7 G2_7 G3_7 G4_7
  go_wp2_with fail
  refine (same_t ((G3_8).below (one_below _ _)) (cn1 (heap_alloc_new _ _) (by decide)) (by decide) (by decide)).mono ?_
  rintro e w9 ⟨rfl, b9⟩
  have s9 := bon (one_below _ _) b9
  have G4_9 := G4_8.below s9
  have H9 := bon H8 s9
  clear b9 s9 H8 G3_8 G4_8
  go_wp2_with fail
  refine (same_t ((G4_9).below (one_below _ _)) (cn1 (heap_alloc_new _ _) (by decide)) (by decide) (by decide)).mono ?_
  rintro e w10 ⟨rfl, b10⟩
  have s10 := bon (one_below _ _) b10
  have H10 := bon H9 s10
  clear b10 s10 H9 G4_9
  go_wp2_with fail
  refine (bits_n (dn1 (heap_alloc_new _ _) (by decide)) (by decide) 9 (by decide)).mono ?_
  rintro e w11 ⟨rfl, b11⟩
  have H11 := bon H10 (bon (one_below _ _) b11)
  clear b11 H10
  go_wp2_with fail
  go_ret
  exact ⟨rfl, H11⟩
end Go.Proofs.Ytokadjfakncdfaa
end

section
set_option linter.unusedVariables false
set_option linter.unusedSimpArgs false
namespace Go.Proofs.Ytokadjfakncdfaa
open Go.RowKit Go.Proofs.YtokadjfakncdfaaW.PrintWords Go.Proofs.YtokadjfakncdfaaW.PrintLast Go.Proofs.YtokadjfakncdfaaW.PrintMore

/-- A slice as a row gives it: all that it holds to its capacity. -/
def IsRow (k : IntKind) (w : World) (a : Option Addr) (len cap : Nat) (zs : List Int) : Prop :=
  (a = none ∧ len = 0 ∧ cap = 0 ∧ zs = []) ∨
  ∃ x, a = some x ∧ len ≤ cap ∧ cap ≤ maxLen ∧ zs.length = cap ∧ (∀ i, i < zs.length → w.cell? (x.add i) = some (.int k (zs.getD i 0))) ∧ ∀ n ∈ zs, (Lit.int k n).wf = true

theorem IsRow.rl {k : IntKind} {w : World} {a : Option Addr} {len cap : Nat} {zs : List Int} (h : IsRow k w a len cap zs) :
    ∃ l : List Int, l.length = len ∧ RL k w (.slice a len cap) l ∧ ∀ x ∈ l, (Lit.int k x).wf = true := by
  obtain ⟨l, rfl, h1, h2, h3, h4⟩ := ReadsInt.ofRowC h
  exact ⟨l, rfl, ⟨a, cap, rfl, h4, Kd.C_of_reads (d := (0 : Int)) (h1 := fun _ => rfl) h1⟩, h3⟩
theorem wf_u64 {x : Int} (h : (Lit.int .u64 x).wf = true) : 0 ≤ x ∧ x < B64 := by
  simp [Lit.wf, IntKind.min, IntKind.max, IntKind.bits, IntKind.signed] at h
  rw [B64_eq]
  omega
theorem wf_u8 {x : Int} (h : (Lit.int .u8 x).wf = true) : 0 ≤ x ∧ x < B8 := by
  simp [Lit.wf, IntKind.min, IntKind.max, IntKind.bits, IntKind.signed] at h
  unfold B8
  omega
theorem IsRow.u64 {w : World} {a : Option Addr} {len cap : Nat} {zs : List Int} (h : IsRow .u64 w a len cap zs) :
    ∃ l : List Int, l.length = len ∧ RL .u64 w (.slice a len cap) l ∧ Dig B64 l := by
  obtain ⟨l, h1, h2, h3⟩ := h.rl
  exact ⟨l, h1, h2, fun x hx => wf_u64 (h3 x hx)⟩
theorem IsRow.u8 {w : World} {a : Option Addr} {len cap : Nat} {zs : List Int} (h : IsRow .u8 w a len cap zs) :
    ∃ l : List Int, l.length = len ∧ RL .u8 w (.slice a len cap) l ∧ Dig B8 l := by
  obtain ⟨l, h1, h2, h3⟩ := h.rl
  exact ⟨l, h1, h2, fun x hx => wf_u8 (h3 x hx)⟩
theorem IsRow.dn {w : World} {a : Option Addr} {len cap : Nat} {zs : List Int} (h : IsRow .u64 w a len cap zs) (L : Nat) (hL : len ≤ L) : ∃ n, DN w (.slice a len cap) n L := by
  obtain ⟨l, h1, h2, h3⟩ := h.u64
  exact ⟨_, l, h2, h3, rfl, by omega⟩
end Go.Proofs.Ytokadjfakncdfaa
end

section
set_option linter.unusedVariables false
set_option linter.unusedSimpArgs false
namespace Go.Proofs.Ytokadjfakncdfaa
open Go.RowKit Go.Proofs.YtokadjfakncdfaaW.PrintWords Go.Proofs.YtokadjfakncdfaaW.PrintLast Go.Proofs.YtokadjfakncdfaaW.PrintMore
open PR

/-- The i-th byte of a number, the lowest is the 0-th. -/
def nby (n : Int) (i : Nat) : Int := n / ((2 ^ (8 * i) : Nat) : Int) % 256
def bytesOf (n : Int) (k : Nat) : List Int := (List.range k).map fun i => nby n (k - 1 - i)
theorem bytesOf_length (n : Int) (k : Nat) : (bytesOf n k).length = k := by simp [bytesOf]
theorem bytesOf_getD (n : Int) (k i : Nat) (h : i < k) : (bytesOf n k).getD i 0 = nby n (k - 1 - i) := by
  simp [bytesOf, List.getD_eq_getElem?_getD, h]
theorem nby_range (n : Int) (i : Nat) : 0 ≤ nby n i ∧ nby n i < 256 := by unfold nby; omega

theorem nby_word {a : List Int} (da : Dig B64 a) (i : Nat) : nby (nv B64 a) i = a.getD (i / 8) 0 / ((2 ^ (8 * (i % 8)) : Nat) : Int) % 256 := by
  unfold nby
  by_cases h : i / 8 < a.length
  · have h1 := nv_split B64 a (i / 8) (by omega)
    have h2 := nv_lt B64_pos (da.take (i / 8))
    have h3 := nv_nonneg B64_pos (da.take (i / 8))
    rw [List.length_take, Nat.min_eq_left (by omega)] at h2
    have e1 : a.drop (i / 8) = a.getD (i / 8) 0 :: a.drop (i / 8 + 1) := by
      rw [List.drop_eq_getElem_cons h, List.getD_eq_getElem?_getD, List.getElem?_eq_getElem h]; rfl
    rw [e1, nv_cons] at h1
    have h4 := da.getD B64_pos (i / 8)
    have h5 := nv_nonneg B64_pos (da.drop (i / 8 + 1))
    obtain ⟨t, ht⟩ := Int.eq_ofNat_of_zero_le h4.1
    obtain ⟨q, hq⟩ := Int.eq_ofNat_of_zero_le h5
    obtain ⟨lo, hlo⟩ := Int.eq_ofNat_of_zero_le h3
    rw [ht, hq, hlo] at h1
    rw [ht]
    rw [hlo, B64_pow] at h2
    rw [h1, B64_pow, B64_eq]
    have e2 : (lo : Int) + ((2 ^ (64 * (i / 8)) : Nat) : Int) * ((t : Int) + 18446744073709551616 * (q : Int)) = ((lo + 2 ^ (64 * (i / 8)) * (t + 18446744073709551616 * q) : Nat) : Int) := by
      simp [Int.natCast_add, Int.natCast_mul]
    rw [e2, ← Int.natCast_ediv, ← Int.natCast_ediv]
    have e3 : (2 : Nat) ^ (8 * i) = 2 ^ (64 * (i / 8)) * 2 ^ (8 * (i % 8)) := by rw [← Nat.pow_add]; congr 1; omega
    have hlo0 : lo / 2 ^ (64 * (i / 8)) = 0 := Nat.div_eq_of_lt (Int.ofNat_lt.1 h2)
    rw [e3, ← Nat.div_div_eq_div_mul, Nat.add_mul_div_left _ _ (Nat.two_pow_pos _), hlo0, Nat.zero_add]
    have e4 : (18446744073709551616 : Nat) = 2 ^ (8 * (i % 8)) * (256 * 2 ^ (56 - 8 * (i % 8))) := by
      rw [show (256 : Nat) * 2 ^ (56 - 8 * (i % 8)) = 2 ^ (64 - 8 * (i % 8)) by rw [show (256 : Nat) = 2 ^ 8 from rfl, ← Nat.pow_add]; congr 1; omega, ← Nat.pow_add, show 8 * (i % 8) + (64 - 8 * (i % 8)) = 64 by omega]
    rw [e4, Nat.mul_assoc, Nat.add_mul_div_left _ _ (Nat.two_pow_pos _)]
    rw [Nat.mul_assoc 256]
    omega
  · have e : a.getD (i / 8) 0 = 0 := by rw [List.getD_eq_getElem?_getD, List.getElem?_eq_none (by omega)]; rfl
    rw [e]
    have h1 := nv_lt B64_pos da
    have h2 := nv_nonneg B64_pos da
    rw [B64_pow] at h1
    have h3 : (2 : Nat) ^ (64 * a.length) ≤ 2 ^ (8 * i) := Nat.pow_le_pow_right (by omega) (by omega)
    rw [Int.ediv_eq_zero_of_lt h2 (by omega)]
    simp

/-- The bytes laid so far: i of n. -/
structure InvB (x : Int) (n i : Nat) (out : List Int) : Prop where
  len : out.length = n
  done : ∀ j, j < i → out.getD j 0 = nby x (n - 1 - j)
  rest : ∀ j, i ≤ j → out.getD j 0 = 0
theorem InvB.start (x : Int) (n : Nat) : InvB x n 0 (List.replicate n 0) := ⟨by simp, fun j h => by omega, fun j _ => by
  rw [List.getD_eq_getElem?_getD, List.getElem?_replicate]; split <;> rfl⟩
theorem InvB.set {x : Int} {n i : Nat} {out : List Int} (h : InvB x n i out) (hi : i < n) (y : Int) (hy : y = nby x (n - 1 - i)) : InvB x n (i + 1) (out.set i y) := by
  refine ⟨by rw [List.length_set, h.len], fun j hj => ?_, fun j hj => ?_⟩
  · rw [getD_set _ _ _ _ (by rw [h.len]; omega)]
    split
    · next e => rw [hy, show i = j by omega]
    · exact h.done j (by omega)
  · rw [getD_set _ _ _ _ (by rw [h.len]; omega)]
    rw [if_neg (by omega)]
    exact h.rest j (by omega)
theorem InvB.skip {x : Int} {n i : Nat} {out : List Int} (h : InvB x n i out) (hy : nby x (n - 1 - i) = 0) : InvB x n (i + 1) out := by
  refine ⟨h.len, fun j hj => ?_, fun j hj => h.rest j (by omega)⟩
  by_cases e : j = i
  · subst e; rw [hy]; exact h.rest j (Nat.le_refl _)
  · exact h.done j (by omega)
theorem InvB.all {x : Int} {n : Nat} {out : List Int} (h : InvB x n n out) : out = bytesOf x n :=
  ext_getD (by rw [h.len, bytesOf_length]) fun j hj => by rw [h.done j (by rw [← h.len]; exact hj), bytesOf_getD _ _ _ (by rw [← h.len]; exact hj)]
theorem info5' : (Try.prog.info? 5).map (fun i => (i.zero, i.size, i.bytes)) = some (some (.int .u8 0), 1, 1) := by kernel_rfl

set_option maxRecDepth 100000 in
theorem bytes_ok (va : Value) (a : List Int) (n r : Nat) (w : World) (ha : RL .u64 w va a) (da : Dig B64 a) (la : a.length ≤ 80) (hn : n ≤ 640) (hr : LenN (nv B64 a).toNat r) (hrn : r ≤ 8 * n) :
    Calls Try.prog 40 #[va, .int .i64 n] w fun e w' => ∃ v', e = .returned (.tuple #[v', .int .i64 0]) ∧ RL .u8 w' v' (bytesOf (nv B64 a) n) ∧ Below w.heap.size w w' := by
  obtain ⟨A, c, rfl, hc, hC⟩ := ha
  have HA := Aside0.mk (show RL .u64 w (.slice A a.length c) a from ⟨A, c, rfl, hc, hC⟩)
  have HC := Aside0.mk hC
  have DA := Aside0.mk da
  have HR := Aside0.mk hr
  clear hC da hr
  have hlong : decide (80 < a.length) = false := by simp; omega
  go_enter Try.func40, Try.ntmps40
  go_wp2_with fail
  refine (long1s_calls A a.length c w (by omega)).mono ?_
  rintro e w1 ⟨rfl, hw1⟩
  have B1 := Aside0.mk (show Below w.heap.size w w1 by rw [hw1]; exact below_alloc1 _ _)
  clear hw1
  go_wp2_with fail
  refine (bits_calls _ a _ (HA.out.below B1.out) DA.out (by omega)).mono ?_
  rintro e w2 ⟨s, rfl, hs, _, b2⟩
  obtain rfl : r = s := HR.out.uniq hs
  have B2 := Aside0.mk (B1.out.trans (b2.mono B1.out.size))
  clear b2 hs B1
  go_wp2_with ((with_reducible refine gate_dst (N := 28) rfl ?_); refine Kd.R_make (Kd.int .u8) (w0 := w) w.heap.size 5 rfl (N := 28) rfl 22 _ _ rfl (n : Int) rfl rfl Try.underlying22 (.int .u8 0) 1 info5' rfl (by decide) (by omega) 0 (ok := fun k => w.heap.size ≤ k) (okp := fun _ => False) rfl (fun _ hk => hk.elim) B2.out.size (by omega) (by omega) B2.out B2.out.size ?_; intro v6 w3 ho hw hg hn9; have HO1 := Aside0.mk (show RO .u8 5 w3 w.heap.size v6 (List.replicate n 0) from by rw [Int.toNat_natCast] at ho; exact ho); have HW := Aside0.mk hw; clear ho hw hg hn9; obtain ⟨A6, c6, rfl⟩ := Kd.R_slice HO1.out; rw [List.length_replicate] at HO1; simp only [List.length_replicate])
  go_loopg [31] n (fun kk v31 wr => ∃ (i : Nat) (out : List Int), i + kk = n ∧ v31 = .int .i64 i ∧ Aside0 (InvB (nv B64 a) n i out) ∧ Aside0 (RO .u8 5 wr w.heap.size (.slice A6 n c6) out) ∧ Aside0 (Below w.heap.size w wr))
  case atStart => exact ⟨0, List.replicate n 0, by omega, rfl, ⟨InvB.start _ _⟩, HO1, HW⟩
  case round =>
    clear HO1 HW B2
    obtain ⟨i, out, hi, rfl, HP, HO, HW⟩ := hrel
    by_cases h0 : i < n
    · obtain ⟨K, hK⟩ : ∃ K, K = n - 1 - i := ⟨_, rfl⟩
      have hk0 : (n : Int) - 1 - (i : Int) = (K : Int) := by omega
      have hk1 : K ≤ 640 := by omega
      have HK := Aside0.mk hK
      clear hK
      obtain ⟨g, cap, eo, hg, hlt, cells, hcells⟩ := Kd.R_form HO.out (by have := HP.out.1; omega)
      have EM := HP.out.1
      have HG := Aside0.mk hg
      rw [EM] at eo
      have EM' := Aside0.mk EM
      clear EM hg hcells hlt cells
      cases eo
      by_cases h1 : K / 8 < a.length
      · obtain ⟨ad, rfl, hcell⟩ := C_cell (Kd.C_below HC.out HW.out) _ h1
        obtain ⟨x, hx⟩ : ∃ x, a.getD (K / 8) 0 = x := ⟨_, rfl⟩
        rw [hx] at hcell
        have HX := Aside0.mk hx
        have HXB := Aside0.mk (hx ▸ DA.out.getD B64_pos (K / 8))
        clear hx
        obtain ⟨hcello, hfro⟩ := Kd.R_celln 0 HO.out (i : Int) (by omega) (by have := EM'.out; omega)
        rw [Int.toNat_natCast] at hcello hfro
        go_wp2_with fail
        go_roundg (gk - 1)
        case measure => omega
        case rel =>
          refine ⟨i + 1, out.set i (x / 2 ^ (8 * (K % 8)) % 256), by omega, by go_num, ⟨HP.out.set h0 _ ?_⟩, ⟨?_⟩, ⟨below_set HW.out HG.out⟩⟩
          · rw [← HK.out, nby_word DA.out, HX.out, Int.natCast_pow]
            rfl
          · have := Kd.R_putn HO.out (i : Int) (x / 2 ^ (8 * (K % 8)) % 256)
            rw [Int.toNat_natCast] at this
            exact this
      · have h1' : (a.length : Int) ≤ (K : Int) / 8 := by omega
        go_wp2_with fail
        go_roundg (gk - 1)
        case measure => omega
        case rel =>
          refine ⟨i + 1, out, by omega, by go_num, ⟨HP.out.skip ?_⟩, HO, HW⟩
          rw [← HK.out, nby_word DA.out, List.getD_eq_getElem?_getD, List.getElem?_eq_none (by omega)]
          simp
    · obtain rfl : i = n := by omega
      go_wp2_with fail
      go_ret2
      exact ⟨_, rfl, by rw [← HP.out.all]; exact RL.of_R HO.out, HW.out⟩

set_option maxRecDepth 100000 in
theorem bytes_arg (va : Value) (a : List Int) (n : Int) (r : Nat) (w : World) (ha : RL .u64 w va a) (da : Dig B64 a) (la : a.length ≤ 80) (hn : n ≤ 640) (hn0 : 0 ≤ n) (hr : LenN (nv B64 a).toNat r) (hrn : 8 * n < r) :
    Calls Try.prog 40 #[va, .int .i64 n] w fun e w' => e = .returned (.tuple #[.slice none 0 0, .int .i64 1]) ∧ Below w.heap.size w w' := by
  obtain ⟨A, c, rfl, hc, hC⟩ := ha
  have HA := Aside0.mk (show RL .u64 w (.slice A a.length c) a from ⟨A, c, rfl, hc, hC⟩)
  have DA := Aside0.mk da
  have HR := Aside0.mk hr
  clear hC da hr
  have hlong : decide (80 < a.length) = false := by simp; omega
  go_enter Try.func40, Try.ntmps40
  go_wp2_with fail
  refine (long1s_calls A a.length c w (by omega)).mono ?_
  rintro e w1 ⟨rfl, hw1⟩
  have B1 := Aside0.mk (show Below w.heap.size w w1 by rw [hw1]; exact below_alloc1 _ _)
  clear hw1
  go_wp2_with fail
  refine (bits_calls _ a _ (HA.out.below B1.out) DA.out (by omega)).mono ?_
  rintro e w2 ⟨s, rfl, hs, _, b2⟩
  obtain rfl : r = s := HR.out.uniq hs
  have B2 := Aside0.mk (B1.out.trans (b2.mono B1.out.size))
  clear b2 hs B1
  go_wp2_with fail
  go_ret2
  exact ⟨rfl, B2.out⟩

set_option maxRecDepth 100000 in
theorem bytes_neg (va : Value) (a : List Int) (n : Int) (w : World) (ha : RL .u64 w va a) (la : a.length ≤ 80) (hn : n < 0) :
    Calls Try.prog 40 #[va, .int .i64 n] w fun e w' => e = .returned (.tuple #[.slice none 0 0, .int .i64 1]) ∧ Below w.heap.size w w' := by
  obtain ⟨A, c, rfl, hc, hC⟩ := ha
  clear hC
  have hlong : decide (80 < a.length) = false := by simp; omega
  go_enter Try.func40, Try.ntmps40
  go_wp2_with fail
  refine (long1s_calls A a.length c w (by omega)).mono ?_
  rintro e w1 ⟨rfl, hw1⟩
  have B1 := Aside0.mk (show Below w.heap.size w w1 by rw [hw1]; exact below_alloc1 _ _)
  clear hw1
  go_wp2_with fail
  go_ret2
  exact ⟨rfl, B1.out⟩

set_option maxRecDepth 100000 in
theorem bytes_long (va : Value) (a : List Int) (n : Int) (w : World) (ha : RL .u64 w va a) (la : a.length ≤ 1000) (hl : 80 < a.length) :
    Calls Try.prog 40 #[va, .int .i64 n] w fun e w' => e = .returned (.tuple #[.slice none 0 0, .int .i64 11]) ∧ Below w.heap.size w w' := by
  obtain ⟨A, c, rfl, hc, hC⟩ := ha
  clear hC
  have hlong : decide (80 < a.length) = true := by simp; omega
  go_enter Try.func40, Try.ntmps40
  go_wp2_with fail
  refine (long1s_calls A a.length c w (by omega)).mono ?_
  rintro e w1 ⟨rfl, hw1⟩
  have B1 := Aside0.mk (show Below w.heap.size w w1 by rw [hw1]; exact below_alloc1 _ _)
  clear hw1
  go_wp2_with fail
  go_ret2
  exact ⟨rfl, B1.out⟩

set_option maxRecDepth 100000 in
theorem bytes_long' (va : Value) (a : List Int) (n : Int) (w : World) (ha : RL .u64 w va a) (la : a.length ≤ 80) (hn : 640 < n) :
    Calls Try.prog 40 #[va, .int .i64 n] w fun e w' => e = .returned (.tuple #[.slice none 0 0, .int .i64 11]) ∧ Below w.heap.size w w' := by
  obtain ⟨A, c, rfl, hc, hC⟩ := ha
  clear hC
  have hlong : decide (80 < a.length) = false := by simp; omega
  go_enter Try.func40, Try.ntmps40
  go_wp2_with fail
  refine (long1s_calls A a.length c w (by omega)).mono ?_
  rintro e w1 ⟨rfl, hw1⟩
  have B1 := Aside0.mk (show Below w.heap.size w w1 by rw [hw1]; exact below_alloc1 _ _)
  clear hw1
  go_wp2_with fail
  go_ret2
  exact ⟨rfl, B1.out⟩
end Go.Proofs.Ytokadjfakncdfaa
end

section
set_option linter.unusedVariables false
set_option linter.unusedSimpArgs false
namespace Go.Proofs.Ytokadjfakncdfaa
open Go.RowKit Go.Proofs.YtokadjfakncdfaaW.PrintWords Go.Proofs.YtokadjfakncdfaaW.PrintLast Go.Proofs.YtokadjfakncdfaaW.PrintMore
open PR

theorem or_low (a b : Nat) (h : b < 256) : a * 256 ||| b = a * 256 + b := by
  have := Nat.two_pow_add_eq_or_of_lt (i := 8) (b := b) (by simpa using h) a
  rw [show (2 : Nat) ^ 8 = 256 from rfl] at this
  rw [Nat.mul_comm, this]

theorem be_lt {xs : List Int} (h : Dig B8 xs) : 0 ≤ nv B8 xs.reverse ∧ nv B8 xs.reverse < 256 ^ xs.length := by
  have h1 := nv_lt B8_pos h.reverse
  have h2 := nv_nonneg B8_pos h.reverse
  rw [List.length_reverse] at h1
  exact ⟨h2, h1⟩
theorem be_succ (xs : List Int) (i : Nat) (h : i < xs.length) : nv B8 (xs.take (i + 1)).reverse = nv B8 (xs.take i).reverse * 256 + xs.getD i 0 := by
  rw [take_snoc' xs i h, List.reverse_append, List.reverse_singleton, List.singleton_append, nv_cons]
  unfold B8
  omega
theorem or_low_i (a b : Int) (ha : 0 ≤ a) (ha' : a < 72057594037927936) (hb : 0 ≤ b) (hb' : b < 256) : bits .or .u64 (IntKind.u64.wrap (a * 256)) (IntKind.u64.wrap b) = a * 256 + b := by
  obtain ⟨m, rfl⟩ := Int.eq_ofNat_of_zero_le ha
  obtain ⟨n, rfl⟩ := Int.eq_ofNat_of_zero_le hb
  rw [IntKind.wrap_u64, IntKind.wrap_u64, show ((m : Int) * 256) % 18446744073709551616 = ((m * 256 : Nat) : Int) by omega, show (n : Int) % 18446744073709551616 = (n : Int) by omega, bits_or_u64_nat _ _ (by omega) (by omega), or_low _ _ (by omega)]
  omega
set_option maxRecDepth 100000 in
theorem uint64_calls (v : Value) (xs : List Int) (w : World) (hx : RL .u8 w v xs) (hd : Dig B8 xs) (hl : xs.length = 8) :
    Calls Try.prog 59 #[.agg #[], v] w fun e w' => e = .returned (.int .u64 (nv B8 xs.reverse)) ∧ Below w.heap.size w w' := by
  obtain ⟨A, c, rfl, hc, hC⟩ := hx
  rw [hl]
  obtain ⟨ad, rfl, _⟩ := C_cell hC 0 (by omega)
  have HC := Aside0.mk hC
  have HD := Aside0.mk hd
  have HL := Aside0.mk hl
  rw [hl] at hc
  clear hC hd hl
  go_enter Try.func59, Try.ntmps59
  go_wp2_with fail
  go_loopg [11, 5] 8 (fun kk v11 v5 wr => ∃ (i : Nat), i + kk = 8 ∧ v11 = .int .i64 i ∧ v5 = .int .u64 (nv B8 (xs.take i).reverse) ∧ Aside0 (Below w.heap.size w wr))
  case atStart => exact ⟨0, by omega, rfl, rfl, ⟨below_alloc1 _ _⟩⟩
  case round =>
    obtain ⟨i, hi, rfl, rfl, HW⟩ := hrel
    obtain ⟨n, hn⟩ : ∃ n, nv B8 (xs.take i).reverse = n := ⟨_, rfl⟩
    rw [hn]
    by_cases h0 : i < 8
    · obtain ⟨ad', he, hcell⟩ := C_cell (Kd.C_below HC.out HW.out) i (by have := HL.out; omega)
      cases he
      obtain ⟨x, hx⟩ : ∃ x, xs.getD i 0 = x := ⟨_, rfl⟩
      rw [hx] at hcell
      have HN := Aside0.mk hn
      have HX := Aside0.mk hx
      clear hn hx
      go_wp2_with fail
      go_roundg (gk - 1)
      case measure => omega
      case rel =>
        have hlen := HL.out
        have hx1 := HX.out ▸ HD.out.getD B8_pos i
        have hn1 := be_lt (HD.out.take i)
        rw [HN.out, List.length_take, Nat.min_eq_left (by omega)] at hn1
        have hp : (256 : Int) ^ i ≤ 256 ^ 7 := pow_le_pow' (by omega) (by omega)
        have h256 : (256 : Int) ^ 7 = 72057594037927936 := by decide
        refine ⟨i + 1, by omega, by go_num, ?_, HW⟩
        rw [be_succ xs i (by omega), HN.out, HX.out]
        exact congrArg (fun z => Value.int .u64 z) (or_low_i n x hn1.1 (by omega) hx1.1 hx1.2)
    · obtain rfl : i = 8 := by omega
      have HN := Aside0.mk hn
      clear hn
      go_wp2_with fail
      go_ret
      refine ⟨?_, HW.out⟩
      rw [← HN.out, List.take_of_length_le (by have := HL.out; omega)]
      rfl
end Go.Proofs.Ytokadjfakncdfaa
end

section
set_option linter.unusedVariables false
set_option linter.unusedSimpArgs false
namespace Go.Proofs.Ytokadjfakncdfaa
open Go.RowKit Go.Proofs.YtokadjfakncdfaaW.PrintWords Go.Proofs.YtokadjfakncdfaaW.PrintLast Go.Proofs.YtokadjfakncdfaaW.PrintMore
open PR
attribute [local go_sem] Oper.semAt_some

theorem chunk_calls (A : Option Addr) (m c : Nat) (w : World) :
    Calls Try.prog 58 #[.slice A m c, .int .i64 8] w fun e w' => e = .returned (.func (.func 104) #[] #[.pointer (some ⟨w.heap.size, 0, none⟩), .pointer (some ⟨w.heap.size + 1, 0, none⟩)]) ∧ w' = (w.alloc (.cells #[.slice A m c] 22)).alloc (.cells #[.int .i64 8] 3) := by
  have hc : ((w.alloc (.cells #[.slice A m c] 22)).alloc (.cells #[.int .i64 8] 3)).cell? ⟨w.heap.size + 1, 0, none⟩ = some (.int .i64 8) := cell_of_one (by have := heap_alloc_new (w.alloc (.cells #[.slice A m c] 22)) (.cells #[.int .i64 8] 3); simpa using this)
  go_enter Try.func58, Try.ntmps58
  go_wp2_with fail
  go_ret
  exact ⟨rfl, rfl⟩

/-- What a round keeps: the iterator's own variables. -/
def KpC (Bs : Nat) (A B : World) : Prop := B.heap[Bs]? = A.heap[Bs]? ∧ B.heap[Bs + 1]? = A.heap[Bs + 1]?
theorem KpC.trans {Bs : Nat} {A B C : World} (h : KpC Bs A B) (k : KpC Bs B C) : KpC Bs A C := ⟨k.1.trans h.1, k.2.trans h.2⟩

def upF (m : Nat) : (k : Nat) → k ≤ m → List (Fin m)
  | 0, _ => []
  | k + 1, hk => upF m k (by omega) ++ [⟨k, by omega⟩]
theorem upF_length (m : Nat) : ∀ (k : Nat) (hk : k ≤ m), (upF m k hk).length = k
  | 0, _ => rfl
  | k + 1, hk => by simp [upF, upF_length m k]

attribute [local go_sem] min2_int
set_option maxRecDepth 100000 in
set_option maxHeartbeats 4000000 in
theorem chunk1_stops (n : Nat) (hn : 1 ≤ n) (A : Option Addr) (g m M c : Nat) (w : World) (Bs : Nat) (hA : 0 < m → A = some ⟨g, 0, none⟩) (hc : M ≤ c) (hm : M ≤ 800) (hM : M = 8 * m)
    (hB : w.heap[Bs]? = some (.cells #[.slice A M c] 22 (0, 0))) (hB1 : w.heap[Bs + 1]? = some (.cells #[.int .i64 8] 3 (0, 0))) :
    SeqStopsK Fence.wide n Try.prog 104 #[.pointer (some ⟨Bs, 0, none⟩), .pointer (some ⟨Bs + 1, 0, none⟩)] (fun x : Fin m => #[.slice (some ⟨g, 8 * x.val, none⟩) 8 8]) (KpC Bs)
      (fun ys => ys = upF m m (Nat.le_refl _)) (fun _ => True) m w := fun l J Jx W hW hJ hJx hY h0 => by
  have HB := Aside0.mk ((hW.block _ (lt_of_block hB)).trans hB)
  have HB1 := Aside0.mk ((hW.block _ (lt_of_block hB1)).trans hB1)
  have H0 := Aside0.mk h0
  have HY := Aside0.mk hY
  have HM := Aside0.mk hM
  have HAA := Aside0.mk hA
  have HJ := Aside0.mk hJ
  clear h0 hJ hY hW hJx hB hB1 hM hA
  refine callsIn_of_wp Try.func104 rfl trivial ?_ rfl
  simp only [Try.ntmps104, List.size_toArray, List.length_cons, List.length_nil, Nat.reduceAdd, Nat.reduceSub, Array.replicate_succ, Array.replicate_zero, List.push_toArray, List.append_toArray, List.nil_append, List.cons_append]
  gi_wp2_with fail
  gi_loopw [4] (fun v4 wr => ∃ (k K : Nat) (hk : k ≤ m), v4 = .int .i64 (K : Int) ∧ Aside0 (K = 8 * k) ∧ Aside0 (J (upF m k hk) wr) ∧ Aside0 (wr.heap[Bs]? = some (.cells #[.slice A M c] 22 (0, 0))) ∧ Aside0 (wr.heap[Bs + 1]? = some (.cells #[.int .i64 8] 3 (0, 0)))) (fun v4 _ => M + 8 - (intOf v4).toNat)
  case atStart => exact ⟨0, 0, by omega, rfl, ⟨rfl⟩, H0, HB, HB1⟩
  case round =>
    clear HB HB1 H0
    obtain ⟨k, K, hk, rfl, HK, HJ1, HB, HB1⟩ := hrel
    have hc0 := cell_of_one HB.out
    have hc1 := cell_of_one HB1.out
    by_cases hlt : k < m
    · obtain rfl : A = _ := HAA.out (by omega)
      have HJ2 := HJ.out _ wr wr.drew none HJ1.out (grown_of_below (below_drew (Below.refl _ _)) none) (fun _ e => by cases e)
      obtain ⟨fn, tmps, assign, body, hy, hR⟩ := HY.out _ ⟨k, hlt⟩ wr.drew HJ2 (by rw [upF_length]; exact hlt)
      have HRR := Aside0.mk hR
      dsimp only at hy
      rw [← HK.out] at hy
      clear HJ2
      have hKM : K + 8 ≤ M := by have := HM.out; have := HK.out; omega
      have hlo : (8 : Int) ≤ (M : Int) - (K : Int) := by omega
      have hlm : ¬ (((M - K : Nat) : Int) < 8) := by omega
      have hcK : ¬ (c = K) := by omega
      have hmx : Try.prog.follows .mixedOrders = true := by kernel_rfl
      clear hR
      gi_wp2_with fail
      gi_region_with_o (fail)
      all_goals gi_wp2_with fail
      all_goals
        refine HRR.out.mono ?_
        rintro e W4 (⟨rfl, hJ4, hk4⟩ | ⟨rfl, hJx4⟩)
        · have HJ4 := Aside0.mk hJ4
          have HB4 := Aside0.mk (hk4.1.trans HB.out)
          have HB14 := Aside0.mk (hk4.2.trans HB1.out)
          have hc41 := cell_of_one HB14.out
          clear hJ4 hk4 hc0 hc1 hy
          gi_wp2_with fail
          go_roundw
          case rel => exact ⟨k + 1, K + 8, by omega, by go_num, ⟨by have := HK.out; omega⟩, HJ4, HB4, HB14⟩
          case measure => simp [intOf]; omega
        · have HX4 := Aside0.mk hJx4
          clear hJx4 hc0 hc1 hy
          gi_wp2_with fail
          refine bodyPost_ret (results_none rfl _ _ _) rfl ?_
          exact ⟨⟨_, rfl⟩, .inr ⟨_, trivial, HX4.out⟩⟩
    · obtain rfl : k = m := by omega
      have hKM : K = M := by have := HM.out; have := HK.out; omega
      subst hKM
      gi_wp2_with fail
      go_end0
      exact ⟨⟨_, rfl⟩, .inl ⟨_, rfl, HJ1.out⟩⟩
end Go.Proofs.Ytokadjfakncdfaa
end

section
set_option linter.unusedVariables false
set_option linter.unusedSimpArgs false
namespace Go.Proofs.Ytokadjfakncdfaa
open Go.RowKit Go.Proofs.YtokadjfakncdfaaW.PrintWords Go.Proofs.YtokadjfakncdfaaW.PrintLast Go.Proofs.YtokadjfakncdfaaW.PrintMore
open PR
attribute [local go_sem] Oper.semAt_some

theorem append1_run (W : World) (base : Nat) (v : Value) (xs : List Int) (x : Int) (gl : Nat) (ho : RO .u64 30 W base v xs) (hl : W.heap[gl]? = some (.cells #[.int .u64 x] 30 (0, 0))) (hlen : xs.length ≤ 1000) (hb : base ≤ W.heap.size) :
    ∃ v1 w1, (Builtin.append_ #[31, 31] 31 #[v, .slice (some ⟨gl, 0, none⟩) 1 1]).run Try.prog W = .ok v1 w1 ∧ RO .u64 30 w1 base v1 (xs ++ [x]) ∧ W.grownBy w1 v.ownBlock := by
  have h1 := Kd.own_of_R ho
  obtain ⟨i, hi, hzz⟩ := Option.map_eq_some_iff.1 info30
  simp only [Prod.mk.injEq] at hzz
  obtain ⟨hz0, hz1, hz2⟩ := hzz
  obtain ⟨g, cap, w', hr, h2, h3, h4, h5⟩ := run_append_lies (P := Try.prog) (w := W) 31 31 base 30 i (.int .u64 0) 1 8 Try.underlying31 hi hz0 hz1 hz2 rfl (by omega) v xs.length _ h1 ⟨gl, 0, none⟩ 1 1 [.int .u64 x] rfl
    (fun j u hu => by
      have hj : j = 0 := by
        rcases Nat.eq_zero_or_pos j with h | h
        · exact h
        · rw [List.getElem?_eq_none (by simp; omega)] at hu; cases hu
      subst hj
      have : u = .int .u64 x := by simpa using hu.symm
      subst this
      exact cell_of_one hl) (by simp [Value.oneCell']) (by omega) (by simp only [maxLen]; omega) (by omega) hb _ rfl
  refine ⟨_, w', hr, ?_, h3⟩
  have e : encs (Value.int .u64) (xs ++ [x]) = encs (Value.int .u64) xs ++ [.int .u64 x] := by simp [encs]
  refine Kd.R_of_own (h1 := fun _ => rfl) ?_ (fun k hk => ?_)
  · rw [e, List.length_append]
    exact h2
  · exact own_base h2 k hk

/-- The append, held together. -/
def AppO (ats : Array TypeId) (ty : TypeId) (args : Array Value) : Sem Value := Builtin.append_ ats ty args
theorem appO_builtin (ats : Array TypeId) (ty : TypeId) (cs : Array Bool) (args : Array Value) : builtin .append ats ty cs args = (do pure (.value (← AppO ats ty args))) := rfl
attribute [local go_sem ↓ high] appO_builtin
/-- What the region leaves behind. -/
structure Fb (W : World) (go : Nat) (ys : List Int) (W' : World) : Prop where
  out : ∃ vo, W'.heap[go]? = some (.cells #[vo] 31 (0, 0)) ∧ RO .u64 30 W' (go + 3) vo ys
  below : Below go W W'
  keeps : KeepsOthers W W'
  b1 : W'.heap[go + 1]? = W.heap[go + 1]?
  b2 : W'.heap[go + 2]? = W.heap[go + 2]?

set_option maxRecDepth 100000 in
set_option maxHeartbeats 8000000 in
theorem reg7 (l n : Nat) (Q : Exit → Act → World → Prop) (W : World) (go : Nat) (vs vo : Value) (ys zs : List Int) (u0 u1 u2 u3 u4 u7 u8 u9 u10 u11 u12 u13 u14 u15 u16 u17 u18 u19 u20 u21 u22 u23 u24 u25 u26 u27 u28 u29 u30 : Value)
    (h5 : W.heap[go]? = some (.cells #[vo] 31 (0, 0))) (hO : RO .u64 30 W (go + 3) vo ys) (hlen : ys.length ≤ 1000) (hs : go + 3 ≤ W.heap.size)
    (hx : RL .u8 W vs zs) (hd : Dig B8 zs) (hl : zs.length = 8) (hmx : Try.prog.follows .mixedOrders = true)
    (hQ : ∀ tmps W', Fb W go (ys ++ [nv B8 zs.reverse]) W' → Q .normal { tmps := tmps, defers := [] } W') :
    (Code.region 7 (opsOf Try.f17 7) true).wpIn (Fence.wide.inRound l) n Try.prog Q { tmps := #[u0, u1, u2, u3, u4, .pointer (some ⟨go, 0, none⟩), vs, u7, u8, u9, u10, u11, u12, u13, u14, u15, u16, u17, u18, u19, u20, u21, u22, u23, u24, u25, u26, u27, u28, u29, u30], defers := [] } W := by
  have HO := Aside0.mk (And.intro h5 (And.intro hO (And.intro hs (And.intro hx (And.intro hd hl)))))
  have hc5 := cell_of_one h5
  obtain ⟨word, hword⟩ : ∃ word, nv B8 zs.reverse = word := ⟨_, rfl⟩
  rw [hword] at hQ
  have HW := Aside0.mk hword
  have HQ := Aside0.mk hQ
  clear h5 hO hx hd hl hQ hword
  simp only [opsOf, Try.f17, opsIn, Option.bind_some, Option.getD_some, Nat.reduceEqDiff, Nat.reduceBEq, ↓reduceIte, Bool.false_eq_true, if_false]
  gi_region_with_o ((refine ⟨trivial, (fun h => by cases h), (CallsIn.inRound l (callsIn_wide.2 (uint64_calls _ zs _ (HO.out.2.2.2.1.below (by first | exact below_drew (Below.refl _ _) | exact Below.refl _ _)) HO.out.2.2.2.2.1 HO.out.2.2.2.2.2))).mono ?_⟩; rw [HW.out]; rintro e W1 ⟨rfl, hb⟩; have HB := Aside0.mk (show Below W.heap.size W W1 from by first | exact hb | exact (below_drew (Below.refl _ _)).trans hb); clear hb; have hs1 : go + 3 ≤ W1.heap.size := Nat.le_trans hs HB.out.size; have hb5 := (HB.out.block _ (lt_of_block HO.out.1)).trans HO.out.1; have hc51 := cell_of_one hb5; have hc52 : (W1.alloc (.cells #[.int .u64 word] 30)).cell? ⟨go, 0, none⟩ = some vo := cell_of_one ((Below.heap_alloc W1 (.cells #[.int .u64 word] 30) go (lt_of_block hb5)).trans hb5); obtain ⟨v1, w1, hr, ho1, hg1⟩ := append1_run (W1.alloc (.cells #[.int .u64 word] 30)) (go + 3) vo ys word W1.heap.size (Kd.R_alloc (Kd.R_below HO.out.2.1 HB.out) _) (heap_alloc_new _ _) hlen (by simp; omega); obtain ⟨A9, c9, rfl⟩ := Kd.R_slice ho1; have hbb := ((Below.refl (go + 3) W1).alloc hs1 (.cells #[.int .u64 word] 30)).grown hg1 (by simp; omega) (fun k hk => Kd.R_base HO.out.2.1 k hk); have hb5' := (hbb.block _ (by omega)).trans hb5; have hc5' := cell_of_one hb5'; have hf5' := free_of_one hb5'; have hr' : (AppO #[31, 31] 31 #[vo, .slice (some ⟨W1.heap.size, 0, none⟩) 1 1]).run Try.prog (W1.alloc (.cells #[.int .u64 word] 30)) = .ok (.slice A9 (ys ++ [word]).length c9) w1 := hr; clear hr; have hty := Kd.R_typed (Kd.R_alloc (Kd.R_below HO.out.2.1 HB.out) (.cells #[.int .u64 word] 30)); have hkp := (KeepsOthers.of_grownBy (grown_of_below HB.out none) (fun _ _ e => by cases e)).trans ((KeepsOthers.alloc W1 (.cells #[.int .u64 word] 30)).trans (KeepsOthers.of_grownBy hg1 (fun j o e ho => by obtain ⟨cells, hc⟩ := hty j e; rw [hc] at ho; cases ho; rfl))); have FF := Aside0.mk (And.intro ho1 (And.intro hbb (And.intro hb5' hkp))); clear hty hkp; clear ho1 hg1 hbb hb5 hb5'))
  all_goals
    refine HQ.out _ _ ?_
    obtain ⟨f1, f2, f3, f4⟩ := FF.out
    have hlt := lt_of_block HO.out.1
    have hBg : Below go W w1 := (HB.out.mono (by omega)).trans (f2.mono (by omega))
    exact ⟨⟨_, one_setCell f3, Kd.R_far (by simpa using f1) (fun k hk => by have hk' : go + 3 ≤ k := hk; show k ≠ go; omega) _⟩, hBg.setCell (Nat.le_refl _) _, f4.trans (KeepsOthers.setCell _ _ _),
      (Below.heap_setCell w1 _ _ _ (by show go + 1 ≠ go; omega)).trans ((f2.block _ (by omega)).trans (HB.out.block _ (by omega))), (Below.heap_setCell w1 _ _ _ (by show go + 2 ≠ go; omega)).trans ((f2.block _ (by omega)).trans (HB.out.block _ (by omega)))⟩
end Go.Proofs.Ytokadjfakncdfaa
end

section
set_option linter.unusedVariables false
set_option linter.unusedSimpArgs false
namespace Go.Proofs.Ytokadjfakncdfaa
open Go.RowKit Go.Proofs.YtokadjfakncdfaaW.PrintWords Go.Proofs.YtokadjfakncdfaaW.PrintLast Go.Proofs.YtokadjfakncdfaaW.PrintMore
open PR
attribute [local go_sem] Oper.semAt_some

def wordAt (ys : List Int) (k : Nat) : Int := nv B8 ((ys.drop (8 * k)).take 8).reverse
theorem upF_map (f : Nat → Int) (m : Nat) : ∀ (k : Nat) (hk : k ≤ m), (upF m k hk).map (fun x => f x.val) = (List.range k).map f
  | 0, _ => rfl
  | k + 1, hk => by rw [List.range_succ, List.map_append, ← upF_map f m k (by omega)]; simp [upF]
theorem B8_8 : B8 ^ 8 = B64 := by decide
theorem nv_words (m : Nat) : ∀ (ys : List Int), ys.length = 8 * m → nv B64 ((List.range m).map (wordAt ys)).reverse = nv B8 ys.reverse := by
  induction m with
  | zero => intro ys h; have : ys = [] := List.eq_nil_of_length_eq_zero (by omega); subst this; rfl
  | succ m ih =>
    intro ys h
    have e1 : ys = ys.take (8 * m) ++ ys.drop (8 * m) := (List.take_append_drop _ _).symm
    have l1 : (ys.take (8 * m)).length = 8 * m := by rw [List.length_take]; omega
    have l2 : (ys.drop (8 * m)).length = 8 := by rw [List.length_drop]; omega
    have e2 : (List.range m).map (wordAt ys) = (List.range m).map (wordAt (ys.take (8 * m))) := by
      refine List.map_congr_left fun k hk => ?_
      have hk' : k < m := List.mem_range.1 hk
      unfold wordAt
      rw [List.drop_take, List.take_take, Nat.min_eq_left (by omega)]
    have e3 : wordAt ys m = nv B8 (ys.drop (8 * m)).reverse := by
      unfold wordAt
      rw [List.take_of_length_le (by omega)]
    rw [List.range_succ, List.map_append, List.map_cons, List.map_nil, List.reverse_append, List.reverse_singleton, List.singleton_append, nv_cons, e2, ih _ l1, e3]
    conv => rhs; rw [e1]
    rw [List.reverse_append, nv_append, List.length_reverse, l2, B8_8]
theorem wordAt_range {ys : List Int} (h : Dig B8 ys) (k : Nat) : 0 ≤ wordAt ys k ∧ wordAt ys k < B64 := by
  have h1 := be_lt ((h.drop (8 * k)).take 8)
  have h2 : (256 : Int) ^ ((ys.drop (8 * k)).take 8).length ≤ 256 ^ 8 := pow_le_pow' (by omega) (by rw [List.length_take]; omega)
  have h3 : (256 : Int) ^ 8 = B64 := by decide
  exact ⟨h1.1, by have := h1.2; unfold wordAt; omega⟩
theorem words_dig {ys : List Int} (h : Dig B8 ys) (m : Nat) : Dig B64 ((List.range m).map (wordAt ys)) := by
  intro x hx
  obtain ⟨k, _, rfl⟩ := List.mem_map.1 hx
  exact wordAt_range h k
theorem pad_nv (p : Nat) (xs : List Int) : nv B8 (List.replicate p 0 ++ xs).reverse = nv B8 xs.reverse := by
  rw [List.reverse_append, nv_append, List.reverse_replicate, nv_replicate]; simp
/-- Of a row, eight from a place on. -/
theorem RL.eight {W : World} {g c : Nat} {ys : List Int} (h : RL .u8 W (.slice (some ⟨g, 0, none⟩) ys.length c) ys) (k : Nat) (hk : 8 * k + 8 ≤ ys.length) : RL .u8 W (.slice (some ⟨g, 8 * k, none⟩) 8 8) ((ys.drop (8 * k)).take 8) := by
  obtain ⟨A, c', he, hc, hC⟩ := h
  cases he
  have l8 : ((ys.drop (8 * k)).take 8).length = 8 := by rw [List.length_take, List.length_drop]; omega
  refine ⟨some ⟨g, 8 * k, none⟩, 8, by rw [l8], by omega, rfl, by omega, fun _ => ⟨_, rfl, fun j p hj => ?_⟩⟩
  have hj8 : j < 8 := by
    rcases Nat.lt_or_ge j 8 with h | h
    · exact h
    · rw [List.getElem?_eq_none (by omega)] at hj; cases hj
  refine ⟨[.int .u8 p], rfl, rfl, fun i u hu => ?_⟩
  have hi0 : i = 0 := by
    rcases Nat.eq_zero_or_pos i with h0 | h0
    · exact h0
    · rw [List.getElem?_eq_none (by simp; omega)] at hu; cases hu
  subst hi0
  have hu' : u = .int .u8 p := by simpa using hu.symm
  subst hu'
  obtain ⟨ad, e, hcell⟩ := C_cell hC (8 * k + j) (by omega)
  cases e
  have hp : ys.getD (8 * k + j) 0 = p := by
    rw [List.getElem?_take, if_pos hj8, List.getElem?_drop] at hj
    rw [List.getD_eq_getElem?_getD, hj]
    rfl
  rw [hp] at hcell
  rw [← hcell]
  by_cases hj0 : j = 0 <;> by_cases hk0 : 8 * k = 0 <;> simp [Addr.add, Kd.int, Kd.scalar, hj0, hk0]

def FbI (W3 : World) (go : Nat) (all : List Int) (m : Nat) (pre : List (Fin m)) (W : World) : Prop :=
  (∃ vo, W.heap[go]? = some (.cells #[vo] 31 (0, 0)) ∧ RO .u64 30 W (go + 3) vo (pre.map fun x => wordAt all x.val)) ∧ Below go W3 W ∧ go + 3 ≤ W.heap.size
theorem FbI.own {W3 : World} {go : Nat} {all : List Int} {m B : Nat} (hB : go ≤ B) : OwnFrom B (FbI W3 go all m) := by
  rintro pre W W' row ⟨⟨vo, h1, h2⟩, h3, h4⟩ hg hr
  have hr' : ∀ r, row = some r → ∃ o : Obj, W.heap[r]? = some o ∧ o.isCells = false := fun r e => (hr r e).2
  exact ⟨⟨vo, blk_own h1 hg hr', RO.own h2 hg hr'⟩, h3.grown hg (by omega) (fun k e => Nat.le_trans hB (hr k e).1), Nat.le_trans h4 hg.size⟩

set_option maxRecDepth 100000 in
set_option maxHeartbeats 8000000 in
theorem frombytes_n (v : Value) (xs : List Int) (w : World) (hx : RL .u8 w v xs) (hd : Dig B8 xs) (hl : xs.length ≤ 640) :
    Calls Try.prog 17 #[v] w fun e w' => ∃ v', e = .returned (.tuple #[v', .int .i64 0]) ∧ CN w' v' (nv B8 xs.reverse) 80 ∧ Below w.heap.size w w' := by
  obtain ⟨A, c, rfl, hc, hC⟩ := hx
  have HC := Aside0.mk hC
  have HD := Aside0.mk hd
  obtain ⟨p, hp⟩ : ∃ p, p = (8 - xs.length % 8) % 8 := ⟨_, rfl⟩
  obtain ⟨m, hm⟩ : ∃ m, p + xs.length = 8 * m := ⟨(p + xs.length) / 8, by omega⟩
  have HP := Aside0.mk (And.intro hp hm)
  have hp1 : (8 - (xs.length : Int) % 8) % 8 = (p : Int) := by omega
  have hp2 : p ≤ 8 := by omega
  clear hC hd hp hm
  refine (callsIn_wide (n := 5)).1 ?_
  refine callsIn_of_wp_marks Try.func17 rfl trivial ?_ rfl
  simp only [Try.ntmps17, List.size_toArray, List.length_cons, List.length_nil, Nat.reduceAdd, Nat.reduceSub, Array.replicate_succ, Array.replicate_zero, List.push_toArray, List.append_toArray, List.nil_append, List.cons_append]
  refine wpIn_wide.2 ?_
  go_wp2_with (first | ((with_reducible refine gate_dst (N := 15) rfl ?_); refine Kd.R_make (Kd.int .u8) (w0 := w) w.heap.size 5 rfl (N := 15) rfl 22 _ _ rfl ((8 - (xs.length : Int) % 8) % 8) rfl rfl Try.underlying22 (.int .u8 0) 1 info5' rfl (by decide) (by omega) 0 (ok := fun k => w.heap.size ≤ k) (okp := fun _ => False) rfl (fun _ hk => hk.elim) (Nat.le_refl _) (by omega) (by omega) (Below.refl _ _) (Nat.le_refl _) ?_; intro v15 w2 ho hw hg hn9; rw [show ((8 - (xs.length : Int) % 8) % 8).toNat = p by omega] at ho; have HO := Aside0.mk ho; have HW := Aside0.mk hw; clear ho hw hg hn9) | (at_builtin; refine Kd.R_append_rows (Kd.int .u8) (w0 := w) w.heap.size rfl _ _ 22 5 (.int .u8 0) 1 rfl Try.underlying22 info5' rfl (by decide) (by omega) _ (List.replicate p 0) xs A xs.length c (fun b => w.heap.size ≤ b) (fun _ => False) rfl rfl HO.out (Kd.C_below HC.out HW.out) (fun x cs h => h) (fun _ h => h.elim) (fun b hb => Nat.le_trans HW.out.size hb) HW.out HW.out.size (by simp; omega) ?_; intro v1 w3 ho hb hg hat; have HO1 := Aside0.mk ho; have HW1 := Aside0.mk hb; clear ho hb hg hat HO HW; obtain ⟨A1, c1, rfl⟩ := Kd.R_slice HO1.out))
  obtain ⟨all, hall⟩ : ∃ all, List.replicate p 0 ++ xs = all := ⟨_, rfl⟩
  have hM : p + xs.length = all.length := by rw [← hall]; simp
  rw [hall] at HO1
  have HALL := Aside0.mk (show all.length = 8 * m ∧ Dig B8 all ∧ nv B8 all.reverse = nv B8 xs.reverse from ⟨by rw [← hM]; exact HP.out.2, by rw [← hall]; exact (Dig.replicate B8_pos p).append HD.out, by rw [← hall]; exact pad_nv p xs⟩)
  have hMb : all.length ≤ 800 := by omega
  rw [hM]
  clear hall hM
  refine (chunk_calls A1 all.length c1 _).mono ?_
  rintro e w4 ⟨rfl, hw4⟩
  obtain ⟨go, hgo⟩ : ∃ go, w3.heap.size = go := ⟨_, rfl⟩
  have E1 : w4.heap[go]? = some (.cells #[.slice none 0 0] 31 (0, 0)) := by
    rw [hw4, ← hgo]
    exact heap_alloc_old (heap_alloc_old (heap_alloc_new w3 _))
  have E2 : w4.heap[go + 1]? = some (.cells #[.slice A1 all.length c1] 22 (0, 0)) := by
    rw [hw4]
    have h := heap_alloc_new (w3.alloc (.cells #[.slice none 0 0] 31)) (.cells #[.slice A1 all.length c1] 22)
    rw [World.size_alloc, hgo] at h
    exact heap_alloc_old h
  have E3 : w4.heap[go + 1 + 1]? = some (.cells #[.int .i64 8] 3 (0, 0)) := by
    rw [hw4]
    have h := heap_alloc_new ((w3.alloc (.cells #[.slice none 0 0] 31)).alloc (.cells #[.slice A1 all.length c1] 22)) (.cells #[.int .i64 8] 3)
    rw [World.size_alloc, World.size_alloc, hgo] at h
    exact h
  have E4 : Below w3.heap.size w3 w4 := by
    rw [hw4]
    exact (((Below.refl w3.heap.size w3).alloc (Nat.le_refl _) _).alloc (by simp) _).alloc (by simp; omega) _
  have E5 : w4.heap.size = go + 3 := by rw [hw4]; simp [hgo]
  have hBs : (w3.alloc (.cells #[.slice none 0 0] 31)).heap.size = go + 1 := by simp [hgo]
  rw [hBs, hgo]
  clear hBs hw4
  have EE := Aside0.mk (And.intro E1 (And.intro E2 (And.intro E3 (And.intro E4 (And.intro E5 hgo)))))
  clear E1 E2 E3 E4 E5 hgo
  go_wp2_with fail
  have hA1 : ∃ g, 0 < m → A1 = some ⟨g, 0, none⟩ := by
    by_cases h0 : 0 < m
    · obtain ⟨g, cap, eo, _⟩ := Kd.R_form HO1.out (by have := HALL.out.1; omega)
      exact ⟨g, fun _ => by cases eo; rfl⟩
    · exact ⟨0, fun h => absurd h h0⟩
  obtain ⟨g, hg⟩ := hA1
  have HA1 := Aside0.mk hg
  clear hg
  have hc1 : all.length ≤ c1 := by
    obtain ⟨A', c', he, hc', _⟩ := RL.of_R HO1.out
    cases he
    exact hc'
  have hseq := chunk1_stops 4 (by omega) A1 g m all.length c1 w4 (go + 1) HA1.out hc1 hMb HALL.out.1 EE.out.2.1 EE.out.2.2.1
  refine (wpIn_wide (n := 5)).1 ?_
  refine wpIn_rangeFunc_ownF rfl (by omega) (gf := 104) (lb := #[.pointer (some ⟨go + 1, 0, none⟩), .pointer (some ⟨go + 1 + 1, 0, none⟩)]) rfl trivial (enters_of Try.func104 (by kernel_rfl) rfl) hseq
    (fun h k => KpC.trans h k) ?kb (Below.refl _ _) (fun _ => rfl) (FbI w3 go all m) (fun _ _ _ => False) (FbI.own (by have := EE.out; omega)) (fun _ _ _ _ _ h _ _ => h) ?start
    (fun x => { tmps := #[.slice A xs.length c, undef, .slice none 0 0, .int .i64 0, .slice A1 all.length c1, .pointer (some ⟨go, 0, none⟩), .slice (some ⟨g, 8 * x.val, none⟩) 8 8, .slice A xs.length c, .int .i64 xs.length, .bool (decide ((640 : Int) < (xs.length : Int))), .slice A xs.length c, .int .i64 xs.length, .int .i64 ((xs.length : Int) % 8), .int .i64 (8 - (xs.length : Int) % 8), .int .i64 p, v15, .slice A xs.length c, .slice A1 all.length c1, .slice A1 all.length c1, .func (.func 104) #[] #[.pointer (some ⟨go + 1, 0, none⟩), .pointer (some ⟨go + 1 + 1, 0, none⟩)], .slice (some ⟨g, 8 * x.val, none⟩) 8 8, undef, undef, undef, undef, undef, undef, undef, undef, undef, undef], defers := [] }) ?assign ?body ?done ?stop
  case kb =>
    intro W l o o' hl h hc hw
    have := EE.out
    exact ⟨World.putObj_heap_other (by omega), World.putObj_heap_other (by omega)⟩
  case start =>
    obtain ⟨h1, h2, h3, h4, h5, h6⟩ := EE.out
    exact ⟨⟨_, h1, Kd.R_nil _ _ _ _ _⟩, h4.mono (by omega), by omega⟩
  case assign =>
    intro l x W K hK
    gi_wp2
    exact hK
  case body =>
    rintro l pre x W ⟨⟨vo, i1, i2⟩, i3, i4⟩ hpl
    have hx8 : 8 * x.val + 8 ≤ all.length := by have := HALL.out.1; have := x.isLt; omega
    have hAg := HA1.out (by have := x.isLt; omega)
    have hra : RL .u8 W (.slice (some ⟨g, 0, none⟩) all.length c1) all := by
      have h1 := RL.of_R HO1.out
      rw [hAg] at h1
      exact h1.below (by rw [EE.out.2.2.2.2.2]; exact i3)
    have h8 := hra.eight x.val hx8
    have hd8 := (HALL.out.2.1.drop (8 * x.val)).take 8
    have hl8 : ((all.drop (8 * x.val)).take 8).length = 8 := by rw [List.length_take, List.length_drop]; omega
    have hplen : (pre.map fun x => wordAt all x.val).length ≤ 1000 := by
      have hpl' : pre.length < m := hpl
      rw [List.length_map]
      have := HALL.out.1
      omega
    have hmx : Try.prog.follows .mixedOrders = true := by kernel_rfl
    have R := fun Q => reg7 l (5 - 1 - 1) Q W go (.slice (some ⟨g, 8 * x.val, none⟩) 8 8) vo (pre.map fun x => wordAt all x.val) ((all.drop (8 * x.val)).take 8)
    simp only [opsOf, Try.f17, opsIn, Option.bind_some, Option.getD_some, Nat.reduceEqDiff, Nat.reduceBEq, ↓reduceIte, Bool.false_eq_true, if_false] at R
    gi_wp2_with fail
    refine R _ _ _ _ _ _ _ _ _ _ _ _ _ _ _ _ _ _ _ _ _ _ _ _ _ _ _ _ _ _ i1 i2 hplen i4 h8 hd8 hl8 hmx ?_
    clear R
    intro tmps W' F
    simp only [Exit.inBlock]
    obtain ⟨v', o1, o2⟩ := F.out
    exact ⟨F.keeps, ⟨F.b1, F.b2⟩, ⟨v', o1, by rw [List.map_append, List.map_cons, List.map_nil]; exact o2⟩, i3.trans F.below, Nat.le_trans i4 F.below.size⟩
  case done =>
    rintro D xs W hD rfl ⟨⟨vo, i1, i2⟩, i3, i4⟩ hK
    obtain ⟨A5, c5, rfl⟩ := Kd.R_slice i2
    rw [upF_map (wordAt all) m m (Nat.le_refl _), List.length_map, List.length_range] at i2
    have hm100 : m ≤ 100 := by have := HALL.out.1; omega
    have i1' : W.heap[go]? = some (.cells #[.slice A5 m c5] 31 (0, 0)) := by
      rw [i1, List.length_map, upF_length]
    have c1' := cell_of_one i1'
    have II := Aside0.mk (And.intro i1' (And.intro i2 (And.intro i3 i4)))
    clear i1 i1' i2 i3 i4
    go_wp2_with fail
    have hbW : Below w.heap.size w W := HW1.out.trans (II.out.2.2.1.mono (by have := HW1.out.size; have := EE.out.2.2.2.2.2; omega))
    have hro : RO .u64 30 W w.heap.size (.slice A5 m c5) ((List.range m).map (wordAt all)) := by
      have h1 := II.out.2.1
      have hle : w.heap.size ≤ go + 3 := by have := HW1.out.size; have := EE.out.2.2.2.2.2; omega
      have h2 := Kd.R_mono (Kd.R_lower h1 hle) (ok' := fun b => w.heap.size ≤ b) (fun b hb => Nat.le_trans hle hb)
      exact h2
    refine (reverse_calls w W hbW _ _ hro (by simp; omega)).mono ?_
    rintro e W1 ⟨rfl, r1, r2, r3⟩
    have hgo1 : W1.heap[go]? = some (.cells #[.slice A5 m c5] 31 (0, 0)) := by
      exact blk_kept II.out.1 r3 (fun e => by have := Kd.R_base II.out.2.1 go e.symm; omega)
    have hK1 : W1.heap[D]? = some (.deferred (some [])) := by
      refine blk_kept hK r3 (fun e => ?_)
      obtain ⟨cells, hcs⟩ := Kd.R_typed II.out.2.1 D e.symm
      rw [hcs] at hK
      cases hK
    have c1' := cell_of_one hgo1
    have RR := Aside0.mk (And.intro r1 (And.intro r2 hK1))
    clear r1 r2 r3 hbW hro hK hgo1 hK1
    go_wp2_with fail
    refine (of_calls _ _ _ (RL.of_R RR.out.1) (words_dig HALL.out.2.1 m).reverse (by simp; omega)).mono ?_
    rintro e W2 ⟨v2, zs, rfl, o1, d1, n1, l1, b1⟩
    have FF := Aside0.mk (And.intro o1 (And.intro d1 (And.intro n1 (And.intro l1 b1))))
    clear o1 d1 n1 l1 b1
    go_wp2_with fail
    obtain ⟨r1, r2, hK1⟩ := RR.out
    obtain ⟨o1, d1, n1, l1, b1⟩ := FF.out
    have hlt := lt_of_block hK1
    have hK' : W2.heap[D]? = some (.deferred (some [])) := (b1.block D hlt).trans hK1
    have hb : Below w.heap.size w W2 := r2.trans (b1.mono r2.size)
    refine ⟨by simp, .inl ⟨D, _, rfl, run_takeDeferred hK', ?_⟩⟩
    have hg : W2.grownBy (W2.putObj D (.deferred none)) (some D) := grownBy_putObj' W2 D _
    have hr : ∀ r, some D = some r → ∃ o : Obj, W2.heap[r]? = some o ∧ o.isCells = false := fun r e => by cases e; exact ⟨_, hK', rfl⟩
    have hval : nv B64 zs = nv B8 xs.reverse := by rw [n1, nv_words m all HALL.out.1, HALL.out.2.2]
    refine ⟨_, results_tmp2 rfl _ _ _, v2, rfl, ⟨zs, RL.of_R (RO.own o1 hg hr), d1, hval, ?_⟩, ?_⟩
    · simp at l1
      have h80 := HP.out
      omega
    · exact hb.grown hg hb.size (fun k e => by cases e; have := EE.out; have := HW1.out.size; omega)
  case stop => exact fun _ _ _ _ _ _ h _ => h.elim

set_option maxRecDepth 100000 in
theorem frombytes_long (v : Value) (xs : List Int) (w : World) (hx : RL .u8 w v xs) (hl : 640 < xs.length) :
    Calls Try.prog 17 #[v] w fun e w' => e = .returned (.tuple #[.slice none 0 0, .int .i64 11]) ∧ Below w.heap.size w w' := by
  obtain ⟨A, c, rfl, hc, hC⟩ := hx
  have hm := Kd.C_max hC
  clear hC
  refine (callsIn_wide (n := 5)).1 ?_
  refine callsIn_of_wp_marks Try.func17 rfl trivial ?_ rfl
  simp only [Try.ntmps17, List.size_toArray, List.length_cons, List.length_nil, Nat.reduceAdd, Nat.reduceSub, Array.replicate_succ, Array.replicate_zero, List.push_toArray, List.append_toArray, List.nil_append, List.cons_append]
  gi_wp2_with fail
  exact ⟨_, results_tmp2 rfl _ _ _, rfl, Below.refl _ _⟩
end Go.Proofs.Ytokadjfakncdfaa
end

section
set_option linter.unusedVariables false
set_option linter.unusedSimpArgs false
namespace Go.Proofs.Ytokadjfakncdfaa

theorem bytesOf_dig (n : Int) (k : Nat) : Dig B8 (bytesOf n k) := by
  intro x hx
  obtain ⟨i, _, rfl⟩ := List.mem_map.1 hx
  exact nby_range _ _
theorem B8_pow (i : Nat) : B8 ^ i = ((2 ^ (8 * i) : Nat) : Int) := by rw [Nat.pow_mul, Int.natCast_pow]; rfl
/-- Digits to base 256 of a number: the number of its first bytes. -/
theorem nv_bytes (x : Int) (hx : 0 ≤ x) (k : Nat) : nv B8 ((List.range k).map (nby x)) = x % B8 ^ k := by
  induction k with
  | zero => simp [nv]
  | succ k ih =>
    rw [List.range_succ, List.map_append, List.map_cons, List.map_nil, nv_snoc, ih, List.length_map, List.length_range, Int.pow_succ]
    unfold nby
    rw [← B8_pow]
    have hp := pow_pos' B8_pos k
    obtain ⟨P, hP⟩ : ∃ P, B8 ^ k = P := ⟨_, rfl⟩
    rw [hP] at hp ⊢
    unfold B8
    have h1 := Int.mul_ediv_add_emod x P
    have h2 := Int.mul_ediv_add_emod (x / P) 256
    have h3 := Int.emod_nonneg x (show P ≠ 0 by omega)
    have h4 := Int.emod_lt_of_pos x hp
    have h5 : x / P / 256 = x / (P * 256) := Int.ediv_ediv_of_nonneg (by omega)
    have h6 := Int.mul_ediv_add_emod x (P * 256)
    have h7 : P * 256 * (x / (P * 256)) = P * (256 * (x / P / 256)) := by rw [h5, Int.mul_assoc]
    have h8 : P * (x / P) = P * (256 * (x / P / 256)) + P * (x / P % 256) := by rw [← Int.mul_add, h2]
    omega
theorem bytesOf_rev (x : Int) (k : Nat) : (bytesOf x k).reverse = (List.range k).map (nby x) := by
  refine List.ext_getElem? fun i => ?_
  by_cases h : i < k
  · rw [List.getElem?_reverse (by rw [bytesOf_length]; exact h), bytesOf_length]
    simp [bytesOf, List.getElem?_map, List.getElem?_range, h, show k - 1 - i < k by omega, show k - 1 - (k - 1 - i) = i by omega]
  · rw [List.getElem?_eq_none (by simp [bytesOf_length]; omega), List.getElem?_eq_none (by simp; omega)]
theorem nv_bytesOf (x : Int) (hx : 0 ≤ x) (k : Nat) (hk : x < B8 ^ k) : nv B8 (bytesOf x k).reverse = x := by
  rw [bytesOf_rev, nv_bytes x hx, Int.emod_eq_of_lt hx hk]
theorem bytesOf_nv {xs : List Int} (h : Dig B8 xs) : bytesOf (nv B8 xs.reverse) xs.length = xs := by
  have h1 := nv_nonneg B8_pos h.reverse
  have h2 := nv_lt B8_pos h.reverse
  have e : (bytesOf (nv B8 xs.reverse) xs.length).reverse = xs.reverse := by
    refine nv_inj B8_pos (bytesOf_dig _ _).reverse h.reverse (by simp [bytesOf_length]) ?_
    exact nv_bytesOf _ h1 _ (by rw [List.length_reverse] at h2; exact h2)
  have := congrArg List.reverse e
  simpa using this
theorem lenN_lt {x : Int} (hx : 0 ≤ x) {r : Nat} (h : LenN x.toNat r) : x < ((2 ^ r : Nat) : Int) := by
  have := h.1
  omega
theorem top_byte {x : Int} (hx : 0 ≤ x) {r : Nat} (h : LenN x.toNat r) (hr : 0 < (r + 7) / 8) : nby x ((r + 7) / 8 - 1) ≠ 0 := by
  obtain ⟨X, rfl⟩ := Int.eq_ofNat_of_zero_le hx
  rw [Int.toNat_natCast] at h
  obtain ⟨h1, h2⟩ := h
  have h3 : 2 ^ (r - 1) ≤ X := by omega
  obtain ⟨q, hq⟩ : ∃ q, q = (r + 7) / 8 - 1 := ⟨_, rfl⟩
  unfold nby
  rw [← hq, ← Int.natCast_ediv]
  have h4 : 2 ^ (8 * q) ≤ 2 ^ (r - 1) := Nat.pow_le_pow_right (by omega) (by omega)
  have h5 : 0 < X / 2 ^ (8 * q) := Nat.div_pos (by omega) (Nat.two_pow_pos _)
  have h6 : X / 2 ^ (8 * q) < 256 := by
    rw [Nat.div_lt_iff_lt_mul (Nat.two_pow_pos _)]
    refine Nat.lt_of_lt_of_le h1 ?_
    rw [show (256 : Nat) = 2 ^ 8 from rfl, ← Nat.pow_add]
    exact Nat.pow_le_pow_right (by omega) (by omega)
  omega
theorem nbit_top {x : Int} (hx : 0 ≤ x) {r : Nat} (h : LenN x.toNat r) : nbit x r = 0 := by
  unfold nbit
  rw [Int.ediv_eq_zero_of_lt hx (lenN_lt hx h)]
  rfl
theorem nbit_last {x : Int} (hx : 0 ≤ x) {r : Nat} (h : LenN x.toNat (r + 1)) : nbit x r = 1 := by
  obtain ⟨X, rfl⟩ := Int.eq_ofNat_of_zero_le hx
  rw [Int.toNat_natCast] at h
  obtain ⟨h1, h2⟩ := h
  have h3 : 2 ^ r ≤ X := by
    rcases h2 with h2 | h2
    · omega
    · simpa using h2
  unfold nbit
  rw [← Int.natCast_ediv]
  have h5 : 1 ≤ X / 2 ^ r := Nat.div_pos h3 (Nat.two_pow_pos _)
  have h6 : X / 2 ^ r < 2 := by
    rw [Nat.div_lt_iff_lt_mul (Nat.two_pow_pos _)]
    rw [Nat.pow_succ] at h1
    omega
  omega
/-- A bit of a number is one of a byte's. -/
theorem nbit_byte (x : Int) (hx : 0 ≤ x) (i : Nat) : nbit x i = nby x (i / 8) / ((2 ^ (i % 8) : Nat) : Int) % 2 := by
  obtain ⟨X, rfl⟩ := Int.eq_ofNat_of_zero_le hx
  unfold nbit nby
  rw [← Int.natCast_ediv, ← Int.natCast_ediv]
  have e3 : (2 : Nat) ^ i = 2 ^ (8 * (i / 8)) * 2 ^ (i % 8) := by rw [← Nat.pow_add]; congr 1; omega
  rw [e3, ← Nat.div_div_eq_div_mul]
  obtain ⟨Y, hY⟩ : ∃ Y, X / 2 ^ (8 * (i / 8)) = Y := ⟨_, rfl⟩
  rw [hY]
  have e4 : ((Y : Int) % 256) = ((Y % 256 : Nat) : Int) := by omega
  rw [e4, ← Int.natCast_ediv]
  have e5 : Y = Y % 256 + 256 * (Y / 256) := by omega
  have e6 : (256 : Nat) = 2 ^ (i % 8) * (2 * 2 ^ (7 - i % 8)) := by
    rw [← Nat.pow_succ', ← Nat.pow_add, show i % 8 + (7 - i % 8 + 1) = 8 by omega]
  have e7 : Y / 2 ^ (i % 8) = Y % 256 / 2 ^ (i % 8) + 2 * (2 ^ (7 - i % 8) * (Y / 256)) := by
    conv => lhs; rw [e5, show 256 * (Y / 256) = 2 ^ (i % 8) * (2 * (2 ^ (7 - i % 8) * (Y / 256))) by rw [← Nat.mul_assoc, ← Nat.mul_assoc, Nat.mul_assoc (2 ^ (i % 8)), ← e6]]
    rw [Nat.add_mul_div_left _ _ (Nat.two_pow_pos _)]
  rw [e7]
  omega
end Go.Proofs.Ytokadjfakncdfaa
end
