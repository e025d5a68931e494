/- nat: down. -/
import Derived.Test.YtokadjfakncdfaaN9
import Derived.RangeFuncFrom
import Derived.RangeFuncLeaves
import Derived.RangeFuncCalls
import Derived.Shelf.Abstract
import Derived.TacticsInMore
import Derived.OwnWalkIn
import Derived.LoopIn
import Derived.OneCell
set_option linter.unusedVariables false
set_option linter.unusedSimpArgs false
namespace Go.Proofs.Ytokadjfakncdfaa
open Go.RowKit Go.Proofs.YtokadjfakncdfaaW.PrintWords Go.Proofs.YtokadjfakncdfaaW.PrintLast Go.Proofs.YtokadjfakncdfaaW.PrintMore
open PR
attribute [local go_sem] Oper.semAt_some

theorem down_calls (A : Option Addr) (m c : Nat) (w : World) :
    Calls Try.prog 68 #[.slice A m c] w fun e w' => e = .returned (.func (.func 109) #[] #[.pointer (some ⟨w.heap.size, 0, none⟩)]) ∧ w' = w.alloc (.cells #[.slice A m c] 31) := by
  go_enter Try.func68, Try.ntmps68
  go_wp2_with fail
  go_ret
  exact ⟨rfl, rfl⟩

/-- What a round keeps: what lay below n₀, and the iterator's own variable. -/
def KpB (n₀ Bs : Nat) (A B : World) : Prop := Below n₀ A B ∧ B.heap[Bs]? = A.heap[Bs]?
theorem KpB.trans {n₀ Bs : Nat} {A B C : World} (h : KpB n₀ Bs A B) (k : KpB n₀ Bs B C) : KpB n₀ Bs A C := ⟨h.1.trans k.1, k.2.trans h.2⟩

/-- The places, the highest first: k of r. -/
def downsF (m r : Nat) (h : r ≤ m) : (k : Nat) → k ≤ r → List (Fin m)
  | 0, _ => []
  | k + 1, hk => downsF m r h k (by omega) ++ [⟨r - 1 - k, by omega⟩]
theorem downsF_length (m r : Nat) (h : r ≤ m) : ∀ (k : Nat) (hk : k ≤ r), (downsF m r h k hk).length = k
  | 0, _ => rfl
  | k + 1, hk => by simp [downsF, downsF_length m r h k]
theorem downsF_map (n : Int) (m r : Nat) (h : r ≤ m) : ∀ (k : Nat) (hk : k ≤ r), (downsF m r h k hk).map (fun x => (x.val, nbit n x.val)) = downs n r k
  | 0, _ => rfl
  | k + 1, hk => by rw [downs_succ, ← downsF_map n m r h k (by omega)]; simp [downsF]

set_option maxRecDepth 100000 in
theorem down1_stops (n : Nat) (hn : 1 ≤ n) (A : Option Addr) (c : Nat) (a : List Int) (w0 w : World) (Bs : Nat) (ha : RL .u64 w0 (.slice A a.length c) a) (da : Dig B64 a) (la : a.length ≤ 1000) (hw : Below w0.heap.size w0 w)
    (hB : w.heap[Bs]? = some (.cells #[.slice A a.length c] 31 (0, 0))) (r : Nat) (hr : LenN (nv B64 a).toNat r) (hrl : r ≤ 64 * a.length) :
    SeqStopsK Fence.wide n Try.prog 109 #[.pointer (some ⟨Bs, 0, none⟩)] (fun x : Fin (64 * a.length) => #[.int .i64 (x.val : Int), .int .u64 (nbit (nv B64 a) x.val)]) (KpB w0.heap.size Bs)
      (fun ys => ys = downsF (64 * a.length) r hrl r (Nat.le_refl _)) (fun _ => True) r w := fun l J Jx W hW hJ hJx hY h0 => by
  have hBW : W.heap[Bs]? = some (.cells #[.slice A a.length c] 31 (0, 0)) := (hW.block _ (lt_of_block hB)).trans hB
  have hc := cell_of_one hBW
  have HW := Aside0.mk (hw.trans (hW.mono hw.size))
  have HA := Aside0.mk ha
  have DA := Aside0.mk da
  have HR := Aside0.mk hr
  have HB := Aside0.mk hBW
  have H0 := Aside0.mk h0
  have HJ := Aside0.mk hJ
  have HY := Aside0.mk hY
  clear ha da hr hBW h0 hJ hY hW hw hJx hB
  refine callsIn_of_wp Try.func109 rfl trivial ?_ rfl
  simp only [Try.ntmps109, List.size_toArray, List.length_cons, List.length_nil, Nat.reduceAdd, Nat.reduceSub, Array.replicate_succ, Array.replicate_zero, List.push_toArray, List.append_toArray, List.nil_append, List.cons_append]
  gi_wp2_with fail
  refine ⟨trivial, (callsIn_wide.2 (bits_calls _ a W (HA.out.below HW.out) DA.out la)).mono ?_⟩
  rintro e W1 ⟨r', rfl, hr', hl, hb⟩
  obtain rfl : r' = r := hr'.uniq HR.out
  have HJ1 := Aside0.mk (HJ.out [] W W1 none H0.out (grown_of_below hb none) (fun _ e => by cases e))
  have HW1 := Aside0.mk (HW.out.trans (hb.mono HW.out.size))
  have HB1 := Aside0.mk ((hb.block _ (lt_of_block HB.out)).trans HB.out)
  clear hr' hb hc HB HW H0
  gi_wp2_with fail
  gi_loopw [3] (fun v3 wr => ∃ (k : Nat) (hk : k ≤ r'), v3 = .int .i64 ((r' : Int) - 1 - k) ∧ Aside0 (J (downsF (64 * a.length) r' hrl k hk) wr) ∧ Aside0 (Below w0.heap.size w0 wr) ∧ Aside0 (wr.heap[Bs]? = some (.cells #[.slice A a.length c] 31 (0, 0)))) (fun v3 _ => (intOf v3 + 1).toNat)
  case atStart => exact ⟨0, by omega, by simp, HJ1, HW1, HB1⟩
  case round =>
    clear HJ1 HW1 HB1
    obtain ⟨k, hk, rfl, HJ1, HW1, HB1⟩ := hrel
    have hc := cell_of_one HB1.out
    by_cases hlt : k < r'
    · obtain ⟨j, hj⟩ : ∃ j : Nat, j = r' - 1 - k := ⟨_, rfl⟩
      have hjm : j < 64 * a.length := by omega
      rw [show (r' : Int) - 1 - k = (j : Int) by omega]
      obtain ⟨fn, tmps, assign, body, hy, hR⟩ := HY.out _ ⟨j, hjm⟩ wr HJ1.out (by rw [downsF_length]; exact hlt)
      have HRR := Aside0.mk hR
      have HJJ := Aside0.mk (And.intro hj hlt)
      dsimp only at hy
      have hb1 : (0 : Int) ≤ j := by omega
      have hjj : j ≤ 64000 := by omega
      clear hR hj hlt
      gi_wp2_with fail
      refine ⟨trivial, (callsIn_wide.2 (bit_calls _ a j wr (HA.out.below HW1.out) DA.out (by omega) (by omega))).mono ?_⟩
      rintro e W3 ⟨rfl, rfl⟩
      gi_wp2_with fail
      refine HRR.out.mono ?_
      rintro e W4 (⟨rfl, hJ4, hk4⟩ | ⟨rfl, hJx4⟩)
      · have HJ4 := Aside0.mk hJ4
        have HW4 := Aside0.mk (HW1.out.trans hk4.1)
        have HB4 := Aside0.mk (hk4.2.trans HB1.out)
        clear hJ4 hk4 hc hy
        gi_wp2_with fail
        go_roundw
        case rel =>
          refine ⟨k + 1, by have := HJJ.out; omega, ?_, ⟨?_⟩, HW4, HB4⟩
          · have := HJJ.out
            exact congrArg (fun z => Value.int .i64 z) (by omega)
          · have h4 := HJ4.out; have e := HJJ.out.1; simp only [e] at h4; exact h4
        case measure => have := HJJ.out; simp [intOf]
      · have HX4 := Aside0.mk hJx4
        clear hJx4 hc hy
        gi_wp2_with fail
        refine bodyPost_ret (results_none rfl _ _ _) rfl ?_
        exact ⟨⟨_, rfl⟩, .inr ⟨_, trivial, HX4.out⟩⟩
    · obtain rfl : k = r' := by omega
      gi_wp2_with fail
      go_end0
      exact ⟨⟨_, rfl⟩, .inl ⟨_, rfl, HJ1.out⟩⟩
end Go.Proofs.Ytokadjfakncdfaa
