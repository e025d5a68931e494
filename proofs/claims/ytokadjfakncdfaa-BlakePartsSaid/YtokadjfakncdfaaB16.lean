/- BlakeParts: its last region, that leaves its order open. -/
import Derived.Test.YtokadjfakncdfaaB15
import Derived.Test.YtokadjfakncdfaaBT
import Derived.Deep.RegionHeld3
import Derived.Deep.DrawnRows
set_option linter.unusedVariables false
set_option linter.unusedSimpArgs false
namespace Go.Proofs.Ytokadjfakncdfaa
open Go.RowKit Go.Proofs.YtokadjfakncdfaaW.PrintWords Go.Proofs.YtokadjfakncdfaaW.PrintLast Go.Proofs.YtokadjfakncdfaaW.PrintMore
attribute [local go_sem ↓] Go.wp_at_zero Go.wp_at_succ


theorem row_three {w : World} {A : Option Addr} {c : Nat} {xs : List Int} (hc : xs.length ≤ c) (h : (Kd.int .u8).C w A xs.length xs) : (Kd.slice 5 (Kd.int .u8)).C (w.alloc (.cells #[.slice none 0 0, .slice A xs.length c, .slice none 0 0] 22)) (some ⟨w.heap.size, 0, none⟩) 3 [[], xs, []] :=
  row_new w [(none, 0, []), (A, c, xs), (none, 0, [])] (fun x hx => by
    simp only [List.mem_cons, List.not_mem_nil, or_false] at hx
    rcases hx with rfl | rfl | rfl
    · exact ⟨Nat.le_refl _, Kd.C_nil _ _⟩
    · exact ⟨hc, h⟩
    · exact ⟨Nat.le_refl _, Kd.C_nil _ _⟩) (by simp)

set_option maxRecDepth 100000 in
set_option maxHeartbeats 8000000 in
theorem reg12 (Q : Exit → Act → World → Prop) (W : World) (A3 : Option Addr) (c3 : Nat) (all s : List Int) (js : ByteArray) (g6 : Nat) (u0 u1 u2 u4 u7 u8 u9 u10 u11 u12 u13 u14 u15 u16 u17 u18 u19 u20 u21 u22 u23 u24 u25 u26 u27 u28 u29 u30 u31 u32 u33 u34 u35 u36 u37 u38 u39 u40 u41 u42 u43 u44 u45 u46 u47 u48 u49 u50 u51 u52 u53 u54 u55 u56 u57 u58 u59 u60 : Value)
    (ops : Array Oper) (hops : opsOf Try.f4 12 = ops)
    (hC : (Kd.int .u8).C W A3 all.length all) (hc3 : all.length ≤ c3) (hl : all.length ≤ 50000) (h6 : W.heap[g6]? = some (.cells (w8 s) 24 (0, 0))) (hs : sumB all = s) (hjs : strB8 all = js) (hmx : Try.prog.follows .mixedOrders = true)
    (hQ : ∀ (y34 y35 y36 y37 y38 y39 y40 y41 y42 y43 y44 y45 y46 y47 y48 y49 y50 y51 y52 y53 y54 y55 y56 y57 y58 y59 y60 : Value) W', Below W.heap.size W W' → Q .normal { tmps := #[u0, u1, .bool true, .slice A3 all.length c3, u4, .string js, .pointer (some ⟨g6, 0, none⟩), u7, u8, u9, u10, u11, u12, u13, u14, u15, u16, u17, u18, u19, u20, u21, u22, u23, u24, u25, u26, u27, u28, u29, u30, u31, u32, u33, y34, y35, y36, y37, y38, y39, y40, y41, y42, y43, y44, y45, y46, y47, y48, y49, y50, y51, y52, y53, y54, y55, y56, y57, y58, y59, y60], defers := [] } W') :
    (Code.region 12 ops true).wp Try.prog Q { tmps := #[u0, u1, u2, .slice A3 all.length c3, u4, .string js, .pointer (some ⟨g6, 0, none⟩), u7, u8, u9, u10, u11, u12, u13, u14, u15, u16, u17, u18, u19, u20, u21, u22, u23, u24, u25, u26, u27, u28, u29, u30, u31, u32, u33, u34, u35, u36, u37, u38, u39, u40, u41, u42, u43, u44, u45, u46, u47, u48, u49, u50, u51, u52, u53, u54, u55, u56, u57, u58, u59, u60], defers := [] } W := by
  subst hops
  have HC := Aside0.mk hC
  have HQ := Aside0.mk hQ
  have ge := guard24
  have ls : s.length = 32 := hs ▸ sumB_length all
  have eq := eql24_run s ls
  have HST := Aside0.mk (show ∀ W', Below W.heap.size W W' → (loadVar 24 ⟨g6, 0, none⟩).run Try.prog W' = .ok (.agg (w8 s)) W' ∧ (convert 22 9 (.slice A3 all.length c3)).run Try.prog W' = .ok (.string js) W' from fun W' hb =>
    ⟨run_loadVar_row W' g6 24 24 (w8 s) (0, 0) _ ((hb.block g6 (lt_of_block h6)).trans h6) Try.underlying24 rfl (w8_size s ls), hjs ▸ str_run8 ⟨A3, c3, rfl, hc3, Kd.C_below HC.out hb⟩⟩)
  have HS := Aside0.mk hs
  clear hC hQ hs hjs h6 ls
  simp only [opsOf, Try.f4, opsIn, Option.bind_some, Option.getD_some, Nat.reduceEqDiff, Nat.reduceBEq, ↓reduceIte, Bool.false_eq_true, if_false]
  refine wp_region_noPanic ?_
  refine wp_region_held_drew (S := (fun w' => (loadVar 24 ⟨g6, 0, none⟩).run Try.prog w' = .ok (.agg (w8 s)) w' ∧ (convert 22 9 (.slice A3 all.length c3)).run Try.prog w' = .ok (.string js) w' ∧ Aside0 (Below W.heap.size W w'))) (by kernel_rfl) ⟨(HST.out _ (below_drew (Below.refl _ _))).1, (HST.out _ (below_drew (Below.refl _ _))).2, ⟨below_drew (Below.refl _ _)⟩⟩ (fun hHeld => ?_)
  refine tk0 (v := .agg (w8 s)) (by kernel_rfl) (by kernel_rfl) (by kernel_rfl) (fun _ _ _ h => h) (Or.inl ⟨by rfl, fun w hSw => load_run 24 (.tmp 6) rfl ⟨g6, 0, none⟩ rfl hSw.1⟩) hHeld ?_
  try simp only [Act.put, List.setIfInBounds_toArray, List.set_cons_zero, List.set_cons_succ]
  refine tk1 (v := ?_) (by kernel_rfl) (by kernel_rfl) (by kernel_rfl) (fun _ _ _ h => h) (Or.inl ⟨by rfl, ?_⟩) hHeld ?_
  rotate_left; · (intro w hSw; (try dsimp only at hSw); go_simp; first | done | with_reducible rfl)
  try simp only [Act.put, List.setIfInBounds_toArray, List.set_cons_zero, List.set_cons_succ]
  refine br2 (by kernel_rfl) (fun K hK => ?_)
  go_simp
  have H1 := Aside0.mk (bon_ hHeld.2.2.out (below_alloc (Below.refl _ _) (.cells #[.slice A3 all.length c3] 22))); have R1 := Aside0.mk (row_one hc3 (Kd.C_below HC.out hHeld.2.2.out)); clear hHeld
  refine hK.out _ _ ⟨(HST.out _ H1.out).1, (HST.out _ H1.out).2, H1⟩ (fun hHeld => ?_)
  clear hK K
  try simp only [Act.put, List.setIfInBounds_toArray, List.set_cons_zero, List.set_cons_succ]
  refine br3 (by kernel_rfl) (fun K hK => ?_)
  go_simp
  (go_at_call 15; refine (sum_calls _ 1 [all] _ R1.out (by simp; omega) (by simp)).mono ?_; rw [show [all].flatten = all by simp, HS.out]; rintro e w2 ⟨rfl, b2⟩; have H2 := Aside0.mk (bon_ hHeld.2.2.out b2); clear b2 hHeld R1)
  refine hK.out _ _ ⟨(HST.out _ H2.out).1, (HST.out _ H2.out).2, H2⟩ (fun hHeld => ?_)
  clear hK K
  try simp only [Act.put, List.setIfInBounds_toArray, List.set_cons_zero, List.set_cons_succ]
  refine tk4 (v := ?_) (by kernel_rfl) (by kernel_rfl) (by kernel_rfl) (fun _ _ _ h => h) (Or.inl ⟨by rfl, ?_⟩) hHeld ?_
  rotate_left; · (intro w hSw; (try dsimp only at hSw); go_simp; first | done | with_reducible rfl)
  try simp only [Act.put, List.setIfInBounds_toArray, List.set_cons_zero, List.set_cons_succ]
  refine tk5 (v := ?_) (by kernel_rfl) (by kernel_rfl) (by kernel_rfl) (fun _ _ _ h => h) (Or.inl ⟨by rfl, ?_⟩) hHeld ?_
  rotate_left; · (intro w hSw; (try dsimp only at hSw); go_simp; first | done | with_reducible rfl)
  try simp only [Act.put, List.setIfInBounds_toArray, List.set_cons_zero, List.set_cons_succ]
  refine tk6 (v := .agg (w8 s)) (by kernel_rfl) (by kernel_rfl) (by kernel_rfl) (fun _ _ _ h => h) (Or.inl ⟨by rfl, fun w hSw => load_run 24 (.tmp 6) rfl ⟨g6, 0, none⟩ rfl hSw.1⟩) hHeld ?_
  try simp only [Act.put, List.setIfInBounds_toArray, List.set_cons_zero, List.set_cons_succ]
  refine tk7 (v := ?_) (by kernel_rfl) (by kernel_rfl) (by kernel_rfl) (fun _ _ _ h => h) (Or.inl ⟨by rfl, ?_⟩) hHeld ?_
  rotate_left; · (intro w hSw; (try dsimp only at hSw); go_simp; first | done | with_reducible rfl)
  try simp only [Act.put, List.setIfInBounds_toArray, List.set_cons_zero, List.set_cons_succ]
  refine br8 (by kernel_rfl) (fun K hK => ?_)
  go_simp
  have H3 := Aside0.mk (bon_ hHeld.2.2.out (below_alloc (Below.refl _ _) (.cells #[.slice none 0 0, .slice A3 all.length c3, .slice none 0 0] 22))); have R3 := Aside0.mk (row_three hc3 (Kd.C_below HC.out hHeld.2.2.out)); clear hHeld
  refine hK.out _ _ ⟨(HST.out _ H3.out).1, (HST.out _ H3.out).2, H3⟩ (fun hHeld => ?_)
  clear hK K
  try simp only [Act.put, List.setIfInBounds_toArray, List.set_cons_zero, List.set_cons_succ]
  refine br9 (by kernel_rfl) (fun K hK => ?_)
  go_simp
  (go_at_call 15; refine (sum_calls _ 3 [[], all, []] _ R3.out (by simp; omega) (by simp)).mono ?_; rw [show [[], all, []].flatten = all by simp, HS.out]; rintro e w4 ⟨rfl, b4⟩; have H4 := Aside0.mk (bon_ hHeld.2.2.out b4); clear b4 hHeld R3)
  refine hK.out _ _ ⟨(HST.out _ H4.out).1, (HST.out _ H4.out).2, H4⟩ (fun hHeld => ?_)
  clear hK K
  try simp only [Act.put, List.setIfInBounds_toArray, List.set_cons_zero, List.set_cons_succ]
  refine tk10 (v := ?_) (by kernel_rfl) (by kernel_rfl) (by kernel_rfl) (fun _ _ _ h => h) (Or.inl ⟨by rfl, ?_⟩) hHeld ?_
  rotate_left; · (intro w hSw; (try dsimp only at hSw); go_simp; first | done | with_reducible rfl)
  try simp only [Act.put, List.setIfInBounds_toArray, List.set_cons_zero, List.set_cons_succ]
  refine tk11 (v := ?_) (by kernel_rfl) (by kernel_rfl) (by kernel_rfl) (fun _ _ _ h => h) (Or.inl ⟨by rfl, ?_⟩) hHeld ?_
  rotate_left; · (intro w hSw; (try dsimp only at hSw); go_simp; first | done | with_reducible rfl)
  try simp only [Act.put, List.setIfInBounds_toArray, List.set_cons_zero, List.set_cons_succ]
  refine tk12 (v := ?_) (by kernel_rfl) (by kernel_rfl) (by kernel_rfl) (fun _ _ _ h => h) (Or.inl ⟨by rfl, ?_⟩) hHeld ?_
  rotate_left; · (intro w hSw; (try dsimp only at hSw); go_simp; first | done | with_reducible rfl)
  try simp only [Act.put, List.setIfInBounds_toArray, List.set_cons_zero, List.set_cons_succ]
  refine tk13 (v := ?_) (by kernel_rfl) (by kernel_rfl) (by kernel_rfl) (fun _ _ _ h => h) (Or.inl ⟨by rfl, ?_⟩) hHeld ?_
  rotate_left; · (intro w hSw; (try dsimp only at hSw); go_simp; first | done | with_reducible rfl)
  try simp only [Act.put, List.setIfInBounds_toArray, List.set_cons_zero, List.set_cons_succ]
  refine tk14 (v := ?_) (by kernel_rfl) (by kernel_rfl) (by kernel_rfl) (fun _ _ _ h => h) (Or.inl ⟨by rfl, ?_⟩) hHeld ?_
  rotate_left; · (intro w hSw; (try dsimp only at hSw); go_simp; first | done | with_reducible rfl)
  try simp only [Act.put, List.setIfInBounds_toArray, List.set_cons_zero, List.set_cons_succ]
  refine tk15 (v := ?_) (by kernel_rfl) (by kernel_rfl) (by kernel_rfl) (fun _ _ _ h => h) (Or.inl ⟨by rfl, ?_⟩) hHeld ?_
  rotate_left; · (intro w hSw; (try dsimp only at hSw); go_simp; first | done | with_reducible rfl)
  try simp only [Act.put, List.setIfInBounds_toArray, List.set_cons_zero, List.set_cons_succ]
  refine tk16 (v := ?_) (by kernel_rfl) (by kernel_rfl) (by kernel_rfl) (fun _ _ _ h => h) (Or.inl ⟨by rfl, ?_⟩) hHeld ?_
  rotate_left; · (intro w hSw; (try dsimp only at hSw); go_simp; first | done | with_reducible rfl)
  try simp only [Act.put, List.setIfInBounds_toArray, List.set_cons_zero, List.set_cons_succ]
  refine tk17 (v := ?_) (by kernel_rfl) (by kernel_rfl) (by kernel_rfl) (fun _ _ _ h => h) (Or.inl ⟨by rfl, ?_⟩) hHeld ?_
  rotate_left; · (intro w hSw; (try dsimp only at hSw); go_simp; first | done | with_reducible rfl)
  try simp only [Act.put, List.setIfInBounds_toArray, List.set_cons_zero, List.set_cons_succ]
  refine tk18 (v := ?_) (by kernel_rfl) (by kernel_rfl) (by kernel_rfl) (fun _ _ _ h => h) (Or.inl ⟨by rfl, ?_⟩) hHeld ?_
  rotate_left; · (intro w hSw; (try dsimp only at hSw); go_simp; first | done | with_reducible rfl)
  try simp only [Act.put, List.setIfInBounds_toArray, List.set_cons_zero, List.set_cons_succ]
  refine tk19 (v := .agg (w8 s)) (by kernel_rfl) (by kernel_rfl) (by kernel_rfl) (fun _ _ _ h => h) (Or.inl ⟨by rfl, fun w hSw => load_run 24 (.tmp 6) rfl ⟨g6, 0, none⟩ rfl hSw.1⟩) hHeld ?_
  try simp only [Act.put, List.setIfInBounds_toArray, List.set_cons_zero, List.set_cons_succ]
  refine tk20 (v := ?_) (by kernel_rfl) (by kernel_rfl) (by kernel_rfl) (fun _ _ _ h => h) (Or.inl ⟨by rfl, ?_⟩) hHeld ?_
  rotate_left; · (intro w hSw; (try dsimp only at hSw); go_simp; first | done | with_reducible rfl)
  try simp only [Act.put, List.setIfInBounds_toArray, List.set_cons_zero, List.set_cons_succ]
  refine br21 (by kernel_rfl) (fun K hK => ?_)
  go_simp
  (go_at_call 16; refine (ref15_calls _ all _ ⟨_, _, rfl, hc3, Kd.C_below HC.out hHeld.2.2.out⟩ (by omega)).mono ?_; rw [HS.out]; rintro e w5 ⟨rfl, b5⟩; have H5 := Aside0.mk (bon_ hHeld.2.2.out b5); clear b5 hHeld)
  refine hK.out _ _ ⟨(HST.out _ H5.out).1, (HST.out _ H5.out).2, H5⟩ (fun hHeld => ?_)
  clear hK K
  try simp only [Act.put, List.setIfInBounds_toArray, List.set_cons_zero, List.set_cons_succ]
  refine tk22 (v := ?_) (by kernel_rfl) (by kernel_rfl) (by kernel_rfl) (fun _ _ _ h => h) (Or.inl ⟨by rfl, ?_⟩) hHeld ?_
  rotate_left; · (intro w hSw; (try dsimp only at hSw); go_simp; first | done | with_reducible rfl)
  try simp only [Act.put, List.setIfInBounds_toArray, List.set_cons_zero, List.set_cons_succ]
  refine tk23 (v := ?_) (by kernel_rfl) (by kernel_rfl) (by kernel_rfl) (fun _ _ _ h => h) (Or.inl ⟨by rfl, ?_⟩) hHeld ?_
  rotate_left; · (intro w hSw; (try dsimp only at hSw); go_simp; first | done | with_reducible rfl)
  try simp only [Act.put, List.setIfInBounds_toArray, List.set_cons_zero, List.set_cons_succ]
  refine tk24 (v := ?_) (by kernel_rfl) (by kernel_rfl) (by kernel_rfl) (fun _ _ _ h => h) (Or.inl ⟨by rfl, ?_⟩) hHeld ?_
  rotate_left; · (intro w hSw; (try dsimp only at hSw); go_simp; first | done | with_reducible rfl)
  try simp only [Act.put, List.setIfInBounds_toArray, List.set_cons_zero, List.set_cons_succ]
  refine br25 (by kernel_rfl) (fun K hK => ?_)
  go_simp
  (go_at_call 14; refine (wakes15_calls _).mono ?_; rintro e w6 ⟨rfl, b6⟩; have H6 := Aside0.mk (bon_ hHeld.2.2.out b6); clear b6 hHeld)
  refine hK.out _ _ ⟨(HST.out _ H6.out).1, (HST.out _ H6.out).2, H6⟩ (fun hHeld => ?_)
  clear hK K
  try simp only [Act.put, List.setIfInBounds_toArray, List.set_cons_zero, List.set_cons_succ]
  refine tk26 (v := ?_) (by kernel_rfl) (by kernel_rfl) (by kernel_rfl) (fun _ _ _ h => h) (Or.inl ⟨by rfl, ?_⟩) hHeld ?_
  rotate_left; · (intro w hSw; (try dsimp only at hSw); go_simp; first | done | with_reducible rfl)
  try simp only [Act.put, List.setIfInBounds_toArray, List.set_cons_zero, List.set_cons_succ]
  refine tk27 (v := ?_) (by kernel_rfl) (by kernel_rfl) (by kernel_rfl) (fun _ _ _ h => h) (Or.inl ⟨by rfl, ?_⟩) hHeld ?_
  rotate_left; · (intro w hSw; (try dsimp only at hSw); go_simp; first | done | with_reducible rfl)
  try simp only [Act.put, List.setIfInBounds_toArray, List.set_cons_zero, List.set_cons_succ]
  refine wpAnyH_done (by kernel_rfl) ?_ _
  refine NoPanic.normal ?_
  exact HQ.out _ _ _ _ _ _ _ _ _ _ _ _ _ _ _ _ _ _ _ _ _ _ _ _ _ _ _ _ H6.out
end Go.Proofs.Ytokadjfakncdfaa
