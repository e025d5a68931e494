/- BlakeParts: the walk. -/
import Derived.Test.YtokadjfakncdfaaB16
import Derived.Outline
set_option linter.unusedVariables false
set_option linter.unusedSimpArgs false
namespace Go.Proofs.Ytokadjfakncdfaa
open Go.RowKit Go.Proofs.YtokadjfakncdfaaW.PrintWords Go.Proofs.YtokadjfakncdfaaW.PrintLast Go.Proofs.YtokadjfakncdfaaW.PrintMore

theorem sum_calls' (A : Option Addr) (c n : Nat) (xss : List (List Int)) (all : List Int) (w : World) (hx : xss.length = n) (ha : xss.flatten = all) (hC : (Kd.slice 5 (Kd.int .u8)).C w A n xss) (hl : all.length ≤ 100000) (hn : n ≤ 100000) :
    Calls Try.prog 15 #[.slice A n c] w fun e w' => e = .returned (.agg (w8 (sumB all))) ∧ Below w.heap.size w w' := by
  subst hx ha
  exact sum_calls A c xss w hC hl hn
theorem flat_bound (xss : List (List Int)) (n : Nat) : ∀ i, (∀ j, j < i → (xss.getD j []).length ≤ n) → i ≤ xss.length → (xss.take i).flatten.length ≤ n * i
  | 0, _, _ => by simp
  | i + 1, h, hi => by
    rw [flat_succ xss i (by omega), List.length_append]
    have h1 := flat_bound xss n i (fun j hj => h j (by omega)) (by omega)
    have h2 := h i (by omega)
    rw [Nat.mul_succ]
    omega

set_option maxRecDepth 100000 in
set_option maxHeartbeats 4000000 in
theorem BlakeParts_law (w : World) (a0 : Option Addr) (l0 c0 : Nat) (xss : List (List Int)) (hx : xss.length = l0) (hC : (Kd.slice 5 (Kd.int .u8)).C w a0 l0 xss) :
    Calls Try.prog 4 #[.slice a0 l0 c0] w fun e w' => e = .returned (.bool true) ∧ Below w.heap.size w w' := by
  by_cases h0 : (20 : Int) < l0
  · clear hC
    go_enter Try.func4, Try.ntmps4
    go_wp2_with fail
    refine (wakes15_calls _).mono ?_
    rintro e w1 ⟨rfl, b1⟩
    have H1 := Aside0.mk b1
    clear b1
    go_wp2_with fail
    go_ret
    exact ⟨rfl, H1.out⟩
  · have HC := Aside0.mk hC
    have HN := Aside0.mk hx
    clear hC hx
    go_enter Try.func4, Try.ntmps4
    go_wp2_with fail
    go_loopg [3, 4] l0 (fun kk v3 v4 wr => ∃ i : Nat, i + kk = l0 ∧ v4 = .int .i64 i ∧ Aside0 (Kd.R (Kd.int .u8) 5 wr w.heap.size (fun b => w.heap.size ≤ b) v3 (xss.take i).flatten) ∧ Aside0 (Below w.heap.size w wr) ∧ Aside0 (∀ j, j < i → (xss.getD j []).length ≤ 500))
    case atStart => exact ⟨0, by omega, rfl, ⟨Kd.R_nil _ _ _ _ _⟩, ⟨Below.refl _ _⟩, ⟨fun j hj => by omega⟩⟩
    case round =>
      obtain ⟨i, hi, rfl, HO, HW, HB⟩ := hrel
      by_cases hlt : i < l0
      · obtain ⟨ad, A', c', rfl, hcell, h1, h2⟩ := row_cell (by rw [HN.out]; exact Kd.C_below HC.out HW.out) i (by rw [HN.out]; exact hlt)
        obtain ⟨ys, hys⟩ : ∃ ys, xss.getD i [] = ys := ⟨_, rfl⟩
        rw [hys] at hcell h1 h2
        have HS := Aside0.mk (flat_succ xss i (by rw [HN.out]; exact hlt))
        rw [hys] at HS
        have H2 := Aside0.mk h2
        have hltI : (i : Int) < (l0 : Int) := by omega
        by_cases h5 : (500 : Int) < ys.length
        · clear h2
          go_wp2_with fail
          refine (wakes15_calls _).mono ?_
          rintro e w1 ⟨rfl, b1⟩
          have H1 := Aside0.mk (bon_ HW.out b1)
          clear b1
          go_wp2_with fail
          go_ret
          exact ⟨rfl, H1.out⟩
        · have HSM := Aside0.mk (show ((xss.take i).flatten.length + ys.length) * 1 ≤ 140737488355328 by
            have := flat_bound xss 500 i HB.out (by rw [HN.out]; omega)
            omega)
          have HB1 := Aside0.mk (show ∀ j, j < i + 1 → (xss.getD j []).length ≤ 500 from fun j hj => by
            by_cases e : j = i
            · subst e; rw [hys]; omega
            · exact HB.out j (by omega))
          clear h2 hys
          go_wp2_with (at_builtin; go_loud (refine Kd.R_append_rows (Kd.int .u8) (w0 := w) w.heap.size rfl _ _ 22 5 (.int .u8 0) 1 rfl Try.underlying22 info5b rfl (by decide) (by decide) _ (xss.take i).flatten ys A' ys.length c' (fun b => w.heap.size ≤ b) (fun _ => False) rfl rfl HO.out H2.out (fun x cs h => h) (fun _ h => h.elim) (fun b hb => Nat.le_trans HW.out.size hb) HW.out HW.out.size HSM.out ?_); intro v1 w3 ho hb hg hat; have HO1 := Aside0.mk ho; have HW1 := Aside0.mk hb; clear ho hb hg hat)
          go_roundg (gk - 1)
          case measure => omega
          case rel => exact ⟨i + 1, by omega, by go_num, ⟨by rw [HS.out]; exact HO1.out⟩, HW1, HB1⟩
      · obtain rfl : i = l0 := by omega
        have hb := flat_bound xss 500 i HB.out (by rw [HN.out]; exact Nat.le_refl _)
        rw [List.take_of_length_le (by rw [HN.out]; exact Nat.le_refl _)] at HO hb
        obtain ⟨all, hall⟩ : ∃ l, xss.flatten = l := ⟨_, rfl⟩
        rw [hall] at HO hb
        have hl : all.length ≤ 10000 := by omega
        obtain ⟨A3, c3, rfl, hc3, hC3⟩ := Kd.R_reads HO.out
        have H3 := Aside0.mk (And.intro hc3 hC3)
        obtain ⟨js, hjs⟩ : ∃ s, strB8 all = s := ⟨_, rfl⟩
        have hcv := str_run8 (show RL .u8 wr (.slice A3 all.length c3) all from ⟨_, _, rfl, hc3, hC3⟩)
        rw [hjs] at hcv
        have HJ := Aside0.mk hjs
        have HL := Aside0.mk hall
        clear hb HB hC3 hjs hall HO
        go_wp2_with fail
        refine (sum_calls' _ _ _ xss all _ HN.out HL.out (Kd.C_below HC.out HW.out) (by omega) (by omega)).mono ?_
        rintro e w1 ⟨rfl, b1⟩
        obtain ⟨s, hs⟩ : ∃ s, sumB all = s := ⟨_, rfl⟩
        rw [hs]
        have ls : s.length = 32 := hs ▸ sumB_length all
        have H1 := Aside0.mk (bon_ HW.out b1)
        have R3 := Aside0.mk (Kd.C_below H3.out.2 b1)
        obtain ⟨a, ha⟩ : ∃ a, w1.heap.size = a := ⟨_, rfl⟩
        have G1 := Aside0.mk (show (w1.alloc (.cells #[.int .u8 0, .int .u8 0, .int .u8 0, .int .u8 0, .int .u8 0, .int .u8 0, .int .u8 0, .int .u8 0, .int .u8 0, .int .u8 0, .int .u8 0, .int .u8 0, .int .u8 0, .int .u8 0, .int .u8 0, .int .u8 0, .int .u8 0, .int .u8 0, .int .u8 0, .int .u8 0, .int .u8 0, .int .u8 0, .int .u8 0, .int .u8 0, .int .u8 0, .int .u8 0, .int .u8 0, .int .u8 0, .int .u8 0, .int .u8 0, .int .u8 0, .int .u8 0] 24)).heap[a]? = some (.cells #[.int .u8 0, .int .u8 0, .int .u8 0, .int .u8 0, .int .u8 0, .int .u8 0, .int .u8 0, .int .u8 0, .int .u8 0, .int .u8 0, .int .u8 0, .int .u8 0, .int .u8 0, .int .u8 0, .int .u8 0, .int .u8 0, .int .u8 0, .int .u8 0, .int .u8 0, .int .u8 0, .int .u8 0, .int .u8 0, .int .u8 0, .int .u8 0, .int .u8 0, .int .u8 0, .int .u8 0, .int .u8 0, .int .u8 0, .int .u8 0, .int .u8 0, .int .u8 0] 24 (0, 0)) by rw [← ha]; exact heap_alloc_new w1 _)
        have SZ := Aside0.mk (And.intro (w8_size s ls) (show (#[.int .u8 0, .int .u8 0, .int .u8 0, .int .u8 0, .int .u8 0, .int .u8 0, .int .u8 0, .int .u8 0, .int .u8 0, .int .u8 0, .int .u8 0, .int .u8 0, .int .u8 0, .int .u8 0, .int .u8 0, .int .u8 0, .int .u8 0, .int .u8 0, .int .u8 0, .int .u8 0, .int .u8 0, .int .u8 0, .int .u8 0, .int .u8 0, .int .u8 0, .int .u8 0, .int .u8 0, .int .u8 0, .int .u8 0, .int .u8 0, .int .u8 0, .int .u8 0] : Array Value).size = (w8 s).size by simp [w8, ls]))
        have HS := Aside0.mk hs
        have hmx : Try.prog.follows .mixedOrders = true := by kernel_rfl
        have hc3' := H3.out.1
        clear hs ls b1 HC HN HL HW H3
        go_upto_region 12 with (refine wpList_store_row rfl 24 (.tmp 6) (.tmp 33) rfl a (w8 s) (by first | rfl | (rw [← ha]; rfl)) rfl 24 _ G1.out SZ.out.1 SZ.out.2 (w8_all _) ?_)
        obtain ⟨W2, hW2⟩ : ∃ W2, (w1.alloc (.cells #[.int .u8 0, .int .u8 0, .int .u8 0, .int .u8 0, .int .u8 0, .int .u8 0, .int .u8 0, .int .u8 0, .int .u8 0, .int .u8 0, .int .u8 0, .int .u8 0, .int .u8 0, .int .u8 0, .int .u8 0, .int .u8 0, .int .u8 0, .int .u8 0, .int .u8 0, .int .u8 0, .int .u8 0, .int .u8 0, .int .u8 0, .int .u8 0, .int .u8 0, .int .u8 0, .int .u8 0, .int .u8 0, .int .u8 0, .int .u8 0, .int .u8 0, .int .u8 0] 24)).setRow a (w8 s) = W2 := ⟨_, rfl⟩
        have h6 : W2.heap[a]? = some (.cells (w8 s) 24 (0, 0)) := by rw [← hW2]; exact setRow_heap _ _ _ _ _ _ G1.out
        have B2 : Below w1.heap.size w1 W2 := by rw [← hW2]; exact below_setRow (below_alloc (Below.refl _ _) _) (by omega) _
        rw [hW2]
        have R4 := Kd.C_below R3.out B2
        have H2 := Aside0.mk (bon_ H1.out B2)
        clear hW2 B2 R3 G1 SZ H1
        try simp only [Act.put]
        have R := fun Q => reg12 Q W2 A3 c3 all s js a
        refine R _ _ _ _ _ _ _ _ _ _ _ _ _ _ _ _ _ _ _ _ _ _ _ _ _ _ _ _ _ _ _ _ _ _ _ _ _ _ _ _ _ _ _ _ _ _ _ _ _ _ _ _ _ _ _ _ _ _ _ _ (by kernel_rfl) R4 hc3' (by omega) h6 HS.out HJ.out hmx ?_
        clear R
        intro y34 y35 y36 y37 y38 y39 y40 y41 y42 y43 y44 y45 y46 y47 y48 y49 y50 y51 y52 y53 y54 y55 y56 y57 y58 y59 y60 wz bz
        go_wp2_with fail
        go_ret
        exact ⟨rfl, bon_ H2.out bz⟩
end Go.Proofs.Ytokadjfakncdfaa
