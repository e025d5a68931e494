/- slices.Grow of nothing and slices.Concat, of bytes. -/
import Derived.Test.YtokadjfakncdfaaPRx0
import Derived.Laws.Externs
set_option linter.unusedVariables false
set_option linter.unusedSimpArgs false
namespace Go.Proofs.Ytokadjfakncdfaa
open Go.RowKit Go.Proofs.YtokadjfakncdfaaW.PrintWords Go.Proofs.YtokadjfakncdfaaW.PrintLast Go.Proofs.YtokadjfakncdfaaW.PrintMore
theorem info5b : (Try.prog.info? 5).map (fun i => (i.zero, i.size, i.bytes)) = some (some (.int .u8 0), 1, 1) := by kernel_rfl

set_option maxRecDepth 100000 in
theorem grow_calls (n : Nat) (hn : n ≤ 1000000) (w : World) :
    Calls Try.prog 95 #[.slice none 0 0, .int .i64 n] w fun e w' => ∃ v, e = .returned v ∧ Kd.R (Kd.int .u8) 5 w' w.heap.size (fun b => w.heap.size ≤ b) v [] ∧ Below w.heap.size w w' := by
  by_cases h0 : n = 0
  · subst h0
    go_enter Try.func95, Try.ntmps95
    go_wp2_with fail
    go_ret
    exact ⟨_, rfl, Kd.R_nil _ _ _ _ _, Below.refl _ _⟩
  · have hp : (0 : Int) < n := by omega
    go_enter Try.func95, Try.ntmps95
    go_wp2_with (at_builtin; refine Kd.R_append_zeros (Kd.int .u8) (w0 := w) w.heap.size rfl _ _ 22 3 5 (.int .u8 0) 1 rfl Try.underlying22 Try.underlying3 info5b rfl (by decide) (by decide) (.slice none 0 0) [] 0 (n : Int) (fun b => w.heap.size ≤ b) rfl rfl rfl (fun k hk => hk) (Kd.R_nil _ _ _ _ _) (by omega) (Below.refl _ _) (Nat.le_refl _) (by simp; omega) ?_; intro v1 w1 ho hb hg hat; have HO := Aside0.mk ho; have HW := Aside0.mk hb; clear ho hb hg hat; obtain ⟨A1, c1, rfl⟩ := Kd.R_slice HO.out)
    go_ret
    have := Kd.R_take HO.out (m := 0) (Nat.zero_le _)
    exact ⟨_, rfl, this, HW.out⟩

/-- A row of rows: its i-th cell. -/
theorem row_cell {w : World} {A : Option Addr} {xss : List (List Int)} (hC : (Kd.slice 5 (Kd.int .u8)).C w A xss.length xss) (i : Nat) (hi : i < xss.length) :
    ∃ ad A' c', A = some ad ∧ w.cell? (ad.add i) = some (.slice A' (xss.getD i []).length c') ∧ (xss.getD i []).length ≤ c' ∧ (Kd.int .u8).C w A' (xss.getD i []).length (xss.getD i []) := by
  obtain ⟨ad, c, rfl, hc, hK, hcell⟩ := Kd.C_get hC [] (i : Int) (by omega) (by omega)
  rw [Int.toNat_natCast] at hK hcell
  obtain ⟨A', c', rfl, h1, h2⟩ := hK
  have := hcell 0 (.slice A' (xss.getD i []).length c') rfl
  exact ⟨ad, A', c', rfl, by simpa [Kd.slice] using this, h1, h2⟩
theorem flat_succ (xss : List (List Int)) (i : Nat) (hi : i < xss.length) : (xss.take (i + 1)).flatten = (xss.take i).flatten ++ xss.getD i [] := by
  rw [List.take_succ_eq_append_getElem hi, List.flatten_append, List.getD_eq_getElem?_getD, List.getElem?_eq_getElem hi]
  simp
theorem flat_le (xss : List (List Int)) (i : Nat) : (xss.take i).flatten.length ≤ xss.flatten.length := by
  have h : xss.flatten = (xss.take i).flatten ++ (xss.drop i).flatten := by rw [← List.flatten_append, List.take_append_drop]
  rw [h, List.length_append]
  omega

set_option maxRecDepth 100000 in
theorem concat_calls (A : Option Addr) (c : Nat) (xss : List (List Int)) (w : World) (hC : (Kd.slice 5 (Kd.int .u8)).C w A xss.length xss) (hl : xss.flatten.length ≤ 100000) (hn : xss.length ≤ 100000) :
    Calls Try.prog 52 #[.slice A xss.length c] w fun e w' => ∃ v, e = .returned v ∧ Kd.R (Kd.int .u8) 5 w' w.heap.size (fun b => w.heap.size ≤ b) v xss.flatten ∧ Below w.heap.size w w' := by
  have HC := Aside0.mk hC
  obtain ⟨n, hN⟩ : ∃ n, xss.length = n := ⟨_, rfl⟩
  rw [hN] at hn ⊢
  have HN := Aside0.mk hN
  clear hC hN
  go_enter Try.func52, Try.ntmps52
  go_wp2_with fail
  go_loopg [3, 11] n (fun kk v3 v11 wr => ∃ i l : Nat, i + kk = n ∧ v11 = .int .i64 i ∧ v3 = .int .i64 l ∧ Aside0 (l = (xss.take i).flatten.length) ∧ w = wr)
  case atStart => exact ⟨0, 0, by omega, rfl, rfl, ⟨by simp⟩, rfl⟩
  case round =>
    obtain ⟨i, l, hi, rfl, rfl, HL, rfl⟩ := hrel
    by_cases hlt : i < n
    · obtain ⟨ad, A', c', rfl, hcell, h1, h2⟩ := row_cell HC.out i (by rw [HN.out]; exact hlt)
      have hs := flat_succ xss i (by rw [HN.out]; exact hlt)
      have hle := flat_le xss (i + 1)
      have hle0 := flat_le xss i
      have hlen : (xss.take (i + 1)).flatten.length = l + (xss.getD i []).length := by rw [hs, List.length_append, HL.out]
      obtain ⟨k, hk⟩ : ∃ k, (xss.getD i []).length = k := ⟨_, rfl⟩
      rw [hk] at hcell hlen
      have hb : l + k ≤ 100000 := by omega
      have HLEN := Aside0.mk hlen
      clear hs hle hle0 hlen h1 h2 hk HL
      have hlk : ¬ ((l : Int) + (k : Int) < 0) := by omega
      go_wp2_with fail
      go_roundg (gk - 1)
      case measure => omega
      case rel => exact ⟨i + 1, l + k, by omega, by go_num, by go_num, ⟨by rw [HLEN.out]⟩, rfl⟩
    · obtain rfl : i = n := by omega
      have hl2 : l ≤ 100000 := by
        have := flat_le xss i
        have := HL.out
        omega
      go_wp2_with fail
      refine (grow_calls l (by omega) _).mono ?_
      rintro e w1 ⟨v, rfl, ho, hb⟩
      have HO := Aside0.mk (show Kd.R (Kd.int .u8) 5 w1 w.heap.size (fun b => w.heap.size ≤ b) v (xss.take 0).flatten by simpa using ho)
      have HW := Aside0.mk hb
      clear ho hb
      go_wp2_with fail
      go_loopg [6, 27] i (fun kk v6 v27 wr => ∃ k : Nat, k + kk = i ∧ v27 = .int .i64 k ∧ Aside0 (Kd.R (Kd.int .u8) 5 wr w.heap.size (fun b => w.heap.size ≤ b) v6 (xss.take k).flatten) ∧ Aside0 (Below w.heap.size w wr))
      case atStart => exact ⟨0, by omega, rfl, HO, HW⟩
      case round =>
        clear HO HW
        obtain ⟨k, hk, rfl, HO, HW⟩ := hrel
        by_cases hlt2 : k < i
        · obtain ⟨ad, A', c', rfl, hcell, h1, h2⟩ := row_cell (Kd.C_below HC.out HW.out) k (by rw [HN.out]; exact hlt2)
          obtain ⟨ys, hys⟩ : ∃ ys, xss.getD k [] = ys := ⟨_, rfl⟩
          rw [hys] at hcell h1 h2
          have HS := Aside0.mk (flat_succ xss k (by rw [HN.out]; exact hlt2))
          rw [hys] at HS
          have hlen : (xss.take k).flatten.length + ys.length ≤ 100000 := by
            have := flat_le xss (k + 1)
            rw [HS.out, List.length_append] at this
            omega
          have H2 := Aside0.mk h2
          have hsmall : ((xss.take k).flatten.length + ys.length) * 1 ≤ 140737488355328 := by omega
          have HSM := Aside0.mk hsmall
          clear hys h1 h2 hlen hsmall
          go_wp2_with (at_builtin; refine Kd.R_append_rows (Kd.int .u8) (w0 := w) w.heap.size rfl _ _ 22 5 (.int .u8 0) 1 rfl Try.underlying22 info5b rfl (by decide) (by decide) _ (xss.take k).flatten ys A' ys.length c' (fun b => w.heap.size ≤ b) (fun _ => False) rfl rfl HO.out H2.out (fun x cs h => h) (fun _ h => h.elim) (fun b hb => Nat.le_trans HW.out.size hb) HW.out HW.out.size HSM.out ?_; intro v1 w3 ho hb hg hat; have HO1 := Aside0.mk ho; have HW1 := Aside0.mk hb; clear ho hb hg hat)
          go_roundg (gk - 1)
          case measure => omega
          case rel => exact ⟨k + 1, by omega, by go_num, ⟨by rw [HS.out]; exact HO1.out⟩, HW1⟩
        · obtain rfl : k = i := by omega
          rw [List.take_of_length_le (by rw [HN.out]; exact Nat.le_refl _)] at HO
          go_wp2_with fail
          go_ret
          exact ⟨_, rfl, HO.out, HW.out⟩
end Go.Proofs.Ytokadjfakncdfaa
