/- slices.Chunk by eights. -/
import Derived.Test.YtokadjfakncdfaaN10
import Derived.RegionIn
import Derived.Shelf.RegionOpen
set_option linter.unusedVariables false
set_option linter.unusedSimpArgs false
namespace Go.Proofs.Ytokadjfakncdfaa
open Go.RowKit Go.Proofs.YtokadjfakncdfaaW.PrintWords Go.Proofs.YtokadjfakncdfaaW.PrintLast Go.Proofs.YtokadjfakncdfaaW.PrintMore
open PR
attribute [local go_sem] Oper.semAt_some

theorem chunk_calls (A : Option Addr) (m c : Nat) (w : World) :
    Calls Try.prog 58 #[.slice A m c, .int .i64 8] w fun e w' => e = .returned (.func (.func 104) #[] #[.pointer (some ⟨w.heap.size, 0, none⟩), .pointer (some ⟨w.heap.size + 1, 0, none⟩)]) ∧ w' = (w.alloc (.cells #[.slice A m c] 22)).alloc (.cells #[.int .i64 8] 3) := by
  have hc : ((w.alloc (.cells #[.slice A m c] 22)).alloc (.cells #[.int .i64 8] 3)).cell? ⟨w.heap.size + 1, 0, none⟩ = some (.int .i64 8) := cell_of_one (by have := heap_alloc_new (w.alloc (.cells #[.slice A m c] 22)) (.cells #[.int .i64 8] 3); simpa using this)
  go_enter Try.func58, Try.ntmps58
  go_wp2_with fail
  go_ret
  exact ⟨rfl, rfl⟩

/-- What a round keeps: the iterator's own variables. -/
def KpC (Bs : Nat) (A B : World) : Prop := B.heap[Bs]? = A.heap[Bs]? ∧ B.heap[Bs + 1]? = A.heap[Bs + 1]?
theorem KpC.trans {Bs : Nat} {A B C : World} (h : KpC Bs A B) (k : KpC Bs B C) : KpC Bs A C := ⟨k.1.trans h.1, k.2.trans h.2⟩

def upF (m : Nat) : (k : Nat) → k ≤ m → List (Fin m)
  | 0, _ => []
  | k + 1, hk => upF m k (by omega) ++ [⟨k, by omega⟩]
theorem upF_length (m : Nat) : ∀ (k : Nat) (hk : k ≤ m), (upF m k hk).length = k
  | 0, _ => rfl
  | k + 1, hk => by simp [upF, upF_length m k]

attribute [local go_sem] min2_int
set_option maxRecDepth 100000 in
set_option maxHeartbeats 4000000 in
theorem chunk1_stops (n : Nat) (hn : 1 ≤ n) (A : Option Addr) (g m M c : Nat) (w : World) (Bs : Nat) (hA : 0 < m → A = some ⟨g, 0, none⟩) (hc : M ≤ c) (hm : M ≤ 800) (hM : M = 8 * m)
    (hB : w.heap[Bs]? = some (.cells #[.slice A M c] 22 (0, 0))) (hB1 : w.heap[Bs + 1]? = some (.cells #[.int .i64 8] 3 (0, 0))) :
    SeqStopsK Fence.wide n Try.prog 104 #[.pointer (some ⟨Bs, 0, none⟩), .pointer (some ⟨Bs + 1, 0, none⟩)] (fun x : Fin m => #[.slice (some ⟨g, 8 * x.val, none⟩) 8 8]) (KpC Bs)
      (fun ys => ys = upF m m (Nat.le_refl _)) (fun _ => True) m w := fun l J Jx W hW hJ hJx hY h0 => by
  have HB := Aside0.mk ((hW.block _ (lt_of_block hB)).trans hB)
  have HB1 := Aside0.mk ((hW.block _ (lt_of_block hB1)).trans hB1)
  have H0 := Aside0.mk h0
  have HY := Aside0.mk hY
  have HM := Aside0.mk hM
  have HAA := Aside0.mk hA
  have HJ := Aside0.mk hJ
  clear h0 hJ hY hW hJx hB hB1 hM hA
  refine callsIn_of_wp Try.func104 rfl trivial ?_ rfl
  simp only [Try.ntmps104, List.size_toArray, List.length_cons, List.length_nil, Nat.reduceAdd, Nat.reduceSub, Array.replicate_succ, Array.replicate_zero, List.push_toArray, List.append_toArray, List.nil_append, List.cons_append]
  gi_wp2_with fail
  gi_loopw [4] (fun v4 wr => ∃ (k K : Nat) (hk : k ≤ m), v4 = .int .i64 (K : Int) ∧ Aside0 (K = 8 * k) ∧ Aside0 (J (upF m k hk) wr) ∧ Aside0 (wr.heap[Bs]? = some (.cells #[.slice A M c] 22 (0, 0))) ∧ Aside0 (wr.heap[Bs + 1]? = some (.cells #[.int .i64 8] 3 (0, 0)))) (fun v4 _ => M + 8 - (intOf v4).toNat)
  case atStart => exact ⟨0, 0, by omega, rfl, ⟨rfl⟩, H0, HB, HB1⟩
  case round =>
    clear HB HB1 H0
    obtain ⟨k, K, hk, rfl, HK, HJ1, HB, HB1⟩ := hrel
    have hc0 := cell_of_one HB.out
    have hc1 := cell_of_one HB1.out
    by_cases hlt : k < m
    · obtain rfl : A = _ := HAA.out (by omega)
      have HJ2 := HJ.out _ wr wr.drew none HJ1.out (grown_of_below (below_drew (Below.refl _ _)) none) (fun _ e => by cases e)
      obtain ⟨fn, tmps, assign, body, hy, hR⟩ := HY.out _ ⟨k, hlt⟩ wr.drew HJ2 (by rw [upF_length]; exact hlt)
      have HRR := Aside0.mk hR
      dsimp only at hy
      rw [← HK.out] at hy
      clear HJ2
      have hKM : K + 8 ≤ M := by have := HM.out; have := HK.out; omega
      have hlo : (8 : Int) ≤ (M : Int) - (K : Int) := by omega
      have hlm : ¬ (((M - K : Nat) : Int) < 8) := by omega
      have hcK : ¬ (c = K) := by omega
      have hmx : Try.prog.follows .mixedOrders = true := by kernel_rfl
      clear hR
      gi_wp2_with fail
      gi_region_with_o (fail)
      all_goals gi_wp2_with fail
      all_goals
        refine HRR.out.mono ?_
        rintro e W4 (⟨rfl, hJ4, hk4⟩ | ⟨rfl, hJx4⟩)
        · have HJ4 := Aside0.mk hJ4
          have HB4 := Aside0.mk (hk4.1.trans HB.out)
          have HB14 := Aside0.mk (hk4.2.trans HB1.out)
          have hc41 := cell_of_one HB14.out
          clear hJ4 hk4 hc0 hc1 hy
          gi_wp2_with fail
          go_roundw
          case rel => exact ⟨k + 1, K + 8, by omega, by go_num, ⟨by have := HK.out; omega⟩, HJ4, HB4, HB14⟩
          case measure => simp [intOf]; omega
        · have HX4 := Aside0.mk hJx4
          clear hJx4 hc0 hc1 hy
          gi_wp2_with fail
          refine bodyPost_ret (results_none rfl _ _ _) rfl ?_
          exact ⟨⟨_, rfl⟩, .inr ⟨_, trivial, HX4.out⟩⟩
    · obtain rfl : k = m := by omega
      have hKM : K = M := by have := HM.out; have := HK.out; omega
      subst hKM
      gi_wp2_with fail
      go_end0
      exact ⟨⟨_, rfl⟩, .inl ⟨_, rfl, HJ1.out⟩⟩
end Go.Proofs.Ytokadjfakncdfaa
