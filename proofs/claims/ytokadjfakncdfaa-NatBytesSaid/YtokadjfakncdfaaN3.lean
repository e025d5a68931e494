/- nat: long. -/
import Derived.Test.YtokadjfakncdfaaN0
import Derived.Deep.LoopGhost
set_option linter.unusedVariables false
set_option linter.unusedSimpArgs false
namespace Go.Proofs.Ytokadjfakncdfaa
open Go.RowKit Go.Proofs.YtokadjfakncdfaaW.PrintWords Go.Proofs.YtokadjfakncdfaaW.PrintLast Go.Proofs.YtokadjfakncdfaaW.PrintMore

theorem long1_calls (A : Option Addr) (n c : Nat) (w : World) (hn : n ≤ 9223372036854775807) :
    Calls Try.prog 107 #[.slice A n c] w fun e w' => e = .returned (.bool (decide (80 < n))) ∧ w' = w := by
  go_enter Try.func107, Try.ntmps107
  go_wp2
  go_ret
  exact ⟨by simp only [Array.getD_eq_getD_getElem?]; simp; omega, rfl⟩

/-- The slices that a row of slices holds. -/
def Rows31 (w : World) (ad : Addr) (L : List (Option Addr × Nat × Nat)) : Prop :=
  ∀ i, i < L.length → w.cell? (ad.add i) = some (.slice (L.getD i (none, 0, 0)).1 (L.getD i (none, 0, 0)).2.1 (L.getD i (none, 0, 0)).2.2) ∧ (L.getD i (none, 0, 0)).2.1 ≤ 9223372036854775807
def anyLong (L : List (Option Addr × Nat × Nat)) : Bool := L.any fun x => decide (80 < x.2.1)

theorem indexFunc_calls (ad : Addr) (c : Nat) (L : List (Option Addr × Nat × Nat)) (w : World) (hr : Rows31 w ad L) (hl : L.length ≤ 1000) :
    Calls Try.prog 117 #[.slice (some ad) L.length c, .func (.func 107) #[] #[]] w fun e w' => ∃ r : Int, e = .returned (.int .i64 r) ∧ -1 ≤ r ∧ r ≤ 1000 ∧ Aside0 (decide (0 ≤ r) = anyLong L) ∧ w' = w := by
  have HR := Aside0.mk hr
  clear hr
  go_enter Try.func117, Try.ntmps117
  go_wp2_with fail
  go_loopg [8] (L.length) (fun k v8 wr => ∃ i : Nat, i + k = L.length ∧ v8 = .int .i64 i ∧ Aside0 (anyLong (L.take i) = false) ∧ wr = w)
  case atStart => exact ⟨0, by omega, rfl, ⟨rfl⟩, rfl⟩
  case round =>
    obtain ⟨i, hi, rfl, HN, rfl⟩ := hrel
    by_cases h0 : i < L.length
    · obtain ⟨hcell, hb⟩ := HR.out i h0
      have hts : L.take (i + 1) = L.take i ++ [L.getD i (none, 0, 0)] := by
        rw [List.take_succ_eq_append_getElem h0, List.getD_eq_getElem?_getD, List.getElem?_eq_getElem h0]; rfl
      have HT := Aside0.mk hts
      have HG := Aside0.mk (show L.getD i (none, 0, 0) ∈ L from by rw [List.getD_eq_getElem?_getD, List.getElem?_eq_getElem h0]; exact List.getElem_mem h0)
      clear hts
      obtain ⟨⟨A, n, c'⟩, hx⟩ : ∃ x, L.getD i (none, 0, 0) = x := ⟨_, rfl⟩
      rw [hx] at hcell hb
      have HX := Aside0.mk hx
      clear hx
      dsimp only at hcell hb
      by_cases hlong : 80 < n
      · go_wp2_with (refine (long1_calls A n c' _ hb).mono ?_; rintro e w' ⟨rfl, rfl⟩)
        go_ret
        refine ⟨i, rfl, by omega, by omega, ⟨?_⟩, rfl⟩
        have : anyLong L = true := List.any_eq_true.2 ⟨_, HG.out, by rw [HX.out]; simpa using hlong⟩
        rw [this]; simp
      · go_wp2_with (refine (long1_calls A n c' _ hb).mono ?_; rintro e w' ⟨rfl, rfl⟩)
        go_roundg (gk - 1)
        case measure => omega
        case rel =>
          refine ⟨i + 1, by omega, by go_num, ⟨?_⟩, rfl⟩
          rw [HT.out]
          unfold anyLong at *
          rw [List.any_append, HN.out, HX.out]
          simpa using hlong
    · go_wp2_with fail
      go_ret
      refine ⟨-1, rfl, by omega, by omega, ⟨?_⟩, rfl⟩
      have := HN.out
      rw [List.take_of_length_le (by omega)] at this
      rw [this]; rfl

theorem containsFunc_calls (ad : Addr) (c : Nat) (L : List (Option Addr × Nat × Nat)) (w : World) (hr : Rows31 w ad L) (hl : L.length ≤ 1000) :
    Calls Try.prog 106 #[.slice (some ad) L.length c, .func (.func 107) #[] #[]] w fun e w' => e = .returned (.bool (anyLong L)) ∧ w' = w := by
  have HR := Aside0.mk hr
  clear hr
  go_enter Try.func106, Try.ntmps106
  go_wp2_with (refine (indexFunc_calls ad c L _ HR.out hl).mono ?_; rintro e w' ⟨r, rfl, h1, h2, HD, rfl⟩)
  go_ret
  refine ⟨?_, rfl⟩
  rw [← HD.out]
  simp

theorem long_calls (ad : Addr) (c : Nat) (L : List (Option Addr × Nat × Nat)) (w : World) (hr : Rows31 w ad L) (hl : L.length ≤ 1000) :
    Calls Try.prog 62 #[.slice (some ad) L.length c] w fun e w' => e = .returned (.bool (anyLong L)) ∧ w' = w := by
  have HR := Aside0.mk hr
  clear hr
  go_enter Try.func62, Try.ntmps62
  go_wp2_with (refine (containsFunc_calls ad c L _ HR.out hl).mono ?_; rintro e w' ⟨rfl, rfl⟩)
  go_ret
  exact ⟨rfl, rfl⟩

/-- Of two lists that stand in a new row. -/
theorem long2_calls (A1 A2 : Option Addr) (n1 n2 c1 c2 : Nat) (w : World) (h1 : n1 ≤ 1000000) (h2 : n2 ≤ 1000000) :
    Calls Try.prog 62 #[.slice (some ⟨w.heap.size, 0, none⟩) 2 2] (w.alloc (.cells #[.slice A1 n1 c1, .slice A2 n2 c2] 31)) fun e w' => e = .returned (.bool (decide (80 < n1 ∨ 80 < n2))) ∧ w' = w.alloc (.cells #[.slice A1 n1 c1, .slice A2 n2 c2] 31) := by
  refine (long_calls ⟨w.heap.size, 0, none⟩ 2 [(A1, n1, c1), (A2, n2, c2)] _ ?_ (by simp)).mono ?_
  · intro i hi
    have : i = 0 ∨ i = 1 := by simp at hi; omega
    rcases this with rfl | rfl
    · exact ⟨World.news_of_block (heap_alloc_new w _) 0 _ rfl, by simp; omega⟩
    · exact ⟨World.news_of_block (heap_alloc_new w _) 1 _ rfl, by simp; omega⟩
  · rintro e w' ⟨rfl, rfl⟩
    exact ⟨by simp [anyLong], rfl⟩
theorem long1s_calls (A1 : Option Addr) (n1 c1 : Nat) (w : World) (h1 : n1 ≤ 1000000) :
    Calls Try.prog 62 #[.slice (some ⟨w.heap.size, 0, none⟩) 1 1] (w.alloc (.cells #[.slice A1 n1 c1] 31)) fun e w' => e = .returned (.bool (decide (80 < n1))) ∧ w' = w.alloc (.cells #[.slice A1 n1 c1] 31) := by
  refine (long_calls ⟨w.heap.size, 0, none⟩ 1 [(A1, n1, c1)] _ ?_ (by simp)).mono ?_
  · intro i hi
    have : i = 0 := by simp at hi; omega
    subst this
    exact ⟨World.news_of_block (heap_alloc_new w _) 0 _ rfl, by simp; omega⟩
  · rintro e w' ⟨rfl, rfl⟩
    exact ⟨by simp [anyLong], rfl⟩
end Go.Proofs.Ytokadjfakncdfaa
