/- BlakeKnown: its last region, that leaves its order open. -/
import Derived.Test.YtokadjfakncdfaaB15
import Derived.Test.YtokadjfakncdfaaB18
import Derived.Test.YtokadjfakncdfaaBT
set_option linter.unusedVariables false
set_option linter.unusedSimpArgs false
namespace Go.Proofs.Ytokadjfakncdfaa
open Go.RowKit Go.Proofs.YtokadjfakncdfaaW.PrintWords Go.Proofs.YtokadjfakncdfaaW.PrintLast Go.Proofs.YtokadjfakncdfaaW.PrintMore
attribute [local go_sem ↓] Go.wp_at_zero Go.wp_at_succ

theorem br1_7 {P : Program} {Q : Exit → Act → World → Prop} {md : Region.Mode} {S : World → Prop} {o0 o1 o2 o3 o4 o5 o6 o7 : Oper} {l : List Oper} {fuel : Nat} {listed : Array Bool} {a : Act} {w : World}
    (hr : Region.ready md (o0 :: o1 :: o2 :: o3 :: o4 :: o5 :: o6 :: o7 :: l).toArray listed = [1, 7])
    (h1 : ∀ K' : Act → World → Prop, Shut (∀ a w, S w → (S w → wpAnyH P md (o0 :: o1 :: o2 :: o3 :: o4 :: o5 :: o6 :: o7 :: l).toArray Q S fuel (listed.setIfInBounds 1 true) a w) → K' a w) → if Region.wanted o1 (yielded (o0 :: o1 :: o2 :: o3 :: o4 :: o5 :: o6 :: o7 :: l).toArray a.tmps) = true then Oper.wp P o1 a w K' Q else K' (a.put o1.dst undef) w)
    (h7 : ∀ K' : Act → World → Prop, Shut (∀ a w, S w → (S w → wpAnyH P md (o0 :: o1 :: o2 :: o3 :: o4 :: o5 :: o6 :: o7 :: l).toArray Q S fuel (listed.setIfInBounds 7 true) a w) → K' a w) → if Region.wanted o7 (yielded (o0 :: o1 :: o2 :: o3 :: o4 :: o5 :: o6 :: o7 :: l).toArray a.tmps) = true then Oper.wp P o7 a w K' Q else K' (a.put o7.dst undef) w) :
    wpAnyH P md (o0 :: o1 :: o2 :: o3 :: o4 :: o5 :: o6 :: o7 :: l).toArray Q S (fuel + 1) listed a w := wpAnyH_ready hr (by simp) (AllReadyH.cons rfl h1 (AllReadyH.cons rfl h7 AllReadyH.nil))
theorem br2_7 {P : Program} {Q : Exit → Act → World → Prop} {md : Region.Mode} {S : World → Prop} {o0 o1 o2 o3 o4 o5 o6 o7 : Oper} {l : List Oper} {fuel : Nat} {listed : Array Bool} {a : Act} {w : World}
    (hr : Region.ready md (o0 :: o1 :: o2 :: o3 :: o4 :: o5 :: o6 :: o7 :: l).toArray listed = [2, 7])
    (h2 : ∀ K' : Act → World → Prop, Shut (∀ a w, S w → (S w → wpAnyH P md (o0 :: o1 :: o2 :: o3 :: o4 :: o5 :: o6 :: o7 :: l).toArray Q S fuel (listed.setIfInBounds 2 true) a w) → K' a w) → if Region.wanted o2 (yielded (o0 :: o1 :: o2 :: o3 :: o4 :: o5 :: o6 :: o7 :: l).toArray a.tmps) = true then Oper.wp P o2 a w K' Q else K' (a.put o2.dst undef) w)
    (h7 : ∀ K' : Act → World → Prop, Shut (∀ a w, S w → (S w → wpAnyH P md (o0 :: o1 :: o2 :: o3 :: o4 :: o5 :: o6 :: o7 :: l).toArray Q S fuel (listed.setIfInBounds 7 true) a w) → K' a w) → if Region.wanted o7 (yielded (o0 :: o1 :: o2 :: o3 :: o4 :: o5 :: o6 :: o7 :: l).toArray a.tmps) = true then Oper.wp P o7 a w K' Q else K' (a.put o7.dst undef) w) :
    wpAnyH P md (o0 :: o1 :: o2 :: o3 :: o4 :: o5 :: o6 :: o7 :: l).toArray Q S (fuel + 1) listed a w := wpAnyH_ready hr (by simp) (AllReadyH.cons rfl h2 (AllReadyH.cons rfl h7 AllReadyH.nil))
theorem br13_19 {P : Program} {Q : Exit → Act → World → Prop} {md : Region.Mode} {S : World → Prop} {o0 o1 o2 o3 o4 o5 o6 o7 o8 o9 o10 o11 o12 o13 o14 o15 o16 o17 o18 o19 : Oper} {l : List Oper} {fuel : Nat} {listed : Array Bool} {a : Act} {w : World}
    (hr : Region.ready md (o0 :: o1 :: o2 :: o3 :: o4 :: o5 :: o6 :: o7 :: o8 :: o9 :: o10 :: o11 :: o12 :: o13 :: o14 :: o15 :: o16 :: o17 :: o18 :: o19 :: l).toArray listed = [13, 19])
    (h13 : ∀ K' : Act → World → Prop, Shut (∀ a w, S w → (S w → wpAnyH P md (o0 :: o1 :: o2 :: o3 :: o4 :: o5 :: o6 :: o7 :: o8 :: o9 :: o10 :: o11 :: o12 :: o13 :: o14 :: o15 :: o16 :: o17 :: o18 :: o19 :: l).toArray Q S fuel (listed.setIfInBounds 13 true) a w) → K' a w) → if Region.wanted o13 (yielded (o0 :: o1 :: o2 :: o3 :: o4 :: o5 :: o6 :: o7 :: o8 :: o9 :: o10 :: o11 :: o12 :: o13 :: o14 :: o15 :: o16 :: o17 :: o18 :: o19 :: l).toArray a.tmps) = true then Oper.wp P o13 a w K' Q else K' (a.put o13.dst undef) w)
    (h19 : ∀ K' : Act → World → Prop, Shut (∀ a w, S w → (S w → wpAnyH P md (o0 :: o1 :: o2 :: o3 :: o4 :: o5 :: o6 :: o7 :: o8 :: o9 :: o10 :: o11 :: o12 :: o13 :: o14 :: o15 :: o16 :: o17 :: o18 :: o19 :: l).toArray Q S fuel (listed.setIfInBounds 19 true) a w) → K' a w) → if Region.wanted o19 (yielded (o0 :: o1 :: o2 :: o3 :: o4 :: o5 :: o6 :: o7 :: o8 :: o9 :: o10 :: o11 :: o12 :: o13 :: o14 :: o15 :: o16 :: o17 :: o18 :: o19 :: l).toArray a.tmps) = true then Oper.wp P o19 a w K' Q else K' (a.put o19.dst undef) w) :
    wpAnyH P md (o0 :: o1 :: o2 :: o3 :: o4 :: o5 :: o6 :: o7 :: o8 :: o9 :: o10 :: o11 :: o12 :: o13 :: o14 :: o15 :: o16 :: o17 :: o18 :: o19 :: l).toArray Q S (fuel + 1) listed a w := wpAnyH_ready hr (by simp) (AllReadyH.cons rfl h13 (AllReadyH.cons rfl h19 AllReadyH.nil))
theorem br14_19 {P : Program} {Q : Exit → Act → World → Prop} {md : Region.Mode} {S : World → Prop} {o0 o1 o2 o3 o4 o5 o6 o7 o8 o9 o10 o11 o12 o13 o14 o15 o16 o17 o18 o19 : Oper} {l : List Oper} {fuel : Nat} {listed : Array Bool} {a : Act} {w : World}
    (hr : Region.ready md (o0 :: o1 :: o2 :: o3 :: o4 :: o5 :: o6 :: o7 :: o8 :: o9 :: o10 :: o11 :: o12 :: o13 :: o14 :: o15 :: o16 :: o17 :: o18 :: o19 :: l).toArray listed = [14, 19])
    (h14 : ∀ K' : Act → World → Prop, Shut (∀ a w, S w → (S w → wpAnyH P md (o0 :: o1 :: o2 :: o3 :: o4 :: o5 :: o6 :: o7 :: o8 :: o9 :: o10 :: o11 :: o12 :: o13 :: o14 :: o15 :: o16 :: o17 :: o18 :: o19 :: l).toArray Q S fuel (listed.setIfInBounds 14 true) a w) → K' a w) → if Region.wanted o14 (yielded (o0 :: o1 :: o2 :: o3 :: o4 :: o5 :: o6 :: o7 :: o8 :: o9 :: o10 :: o11 :: o12 :: o13 :: o14 :: o15 :: o16 :: o17 :: o18 :: o19 :: l).toArray a.tmps) = true then Oper.wp P o14 a w K' Q else K' (a.put o14.dst undef) w)
    (h19 : ∀ K' : Act → World → Prop, Shut (∀ a w, S w → (S w → wpAnyH P md (o0 :: o1 :: o2 :: o3 :: o4 :: o5 :: o6 :: o7 :: o8 :: o9 :: o10 :: o11 :: o12 :: o13 :: o14 :: o15 :: o16 :: o17 :: o18 :: o19 :: l).toArray Q S fuel (listed.setIfInBounds 19 true) a w) → K' a w) → if Region.wanted o19 (yielded (o0 :: o1 :: o2 :: o3 :: o4 :: o5 :: o6 :: o7 :: o8 :: o9 :: o10 :: o11 :: o12 :: o13 :: o14 :: o15 :: o16 :: o17 :: o18 :: o19 :: l).toArray a.tmps) = true then Oper.wp P o19 a w K' Q else K' (a.put o19.dst undef) w) :
    wpAnyH P md (o0 :: o1 :: o2 :: o3 :: o4 :: o5 :: o6 :: o7 :: o8 :: o9 :: o10 :: o11 :: o12 :: o13 :: o14 :: o15 :: o16 :: o17 :: o18 :: o19 :: l).toArray Q S (fuel + 1) listed a w := wpAnyH_ready hr (by simp) (AllReadyH.cons rfl h14 (AllReadyH.cons rfl h19 AllReadyH.nil))

theorem sum_calls2 (A : Option Addr) (c n : Nat) (xss : List (List Int)) (all : List Int) (w : World) (hx : xss.length = n) (ha : xss.flatten = all) (hC : (Kd.slice 5 (Kd.int .u8)).C w A n xss) (hl : all.length ≤ 100000) (hn : n ≤ 100000) :
    Calls Try.prog 15 #[.slice A n c] w fun e w' => e = .returned (.agg (w8 (sumB all))) ∧ Below w.heap.size w w' := by
  subst hx ha
  exact sum_calls A c xss w hC hl hn
theorem bst {W w : World} (h : Aside0 (Below W.heap.size W w)) (o : Obj) : Below w.heap.size w (w.alloc o) := below_alloc (Below.refl _ _) o
/-- A part of a row of one byte. -/
theorem C_part {W : World} {g8 : Nat} (h : W.heap[g8]? = some (.cells (w8 (List.replicate 65 97)) 5 (0, 0))) (o n : Nat) (ho : o + n ≤ 65) : (Kd.int .u8).C W (some ⟨g8, o, none⟩) (List.replicate n (97 : Int)).length (List.replicate n 97) := by
  refine C_cells (by rw [List.length_replicate]; have e : maxLen = 9223372036854775807 := rfl; omega) fun i hi => ?_
  rw [List.length_replicate] at hi
  rw [show (Addr.mk g8 o none).add i = ⟨g8, o + i, none⟩ by unfold Addr.add; split <;> simp_all]
  rw [w8_cell h (o + i) (by rw [List.length_replicate]; omega), List.getD_eq_getElem?_getD, List.getD_eq_getElem?_getD, List.getElem?_replicate, List.getElem?_replicate, if_pos (by omega), if_pos hi]
variable {w : World} {g8 : Nat}
theorem row_w1 (h : w.heap[g8]? = some (.cells (w8 (List.replicate 65 97)) 5 (0, 0))) : (Kd.slice 5 (Kd.int .u8)).C (w.alloc (.cells #[.slice (some ⟨g8, 0, none⟩) 65 65] 22)) (some ⟨w.heap.size, 0, none⟩) 1 [List.replicate 65 97] :=
  row_new w [(some ⟨g8, 0, none⟩, 65, List.replicate 65 97)] (fun x hx => by
    simp only [List.mem_cons, List.not_mem_nil, or_false] at hx
    subst hx
    exact ⟨by simp, C_part h _ _ (by decide)⟩) (by simp)
theorem row_w7 (h : w.heap[g8]? = some (.cells (w8 (List.replicate 65 97)) 5 (0, 0))) : (Kd.slice 5 (Kd.int .u8)).C (w.alloc (.cells #[.slice (some ⟨g8, 0, none⟩) 64 65, .slice (some ⟨g8, 64, none⟩) 1 1] 22)) (some ⟨w.heap.size, 0, none⟩) 2 [List.replicate 64 97, List.replicate 1 97] :=
  row_new w [(some ⟨g8, 0, none⟩, 65, List.replicate 64 97), (some ⟨g8, 64, none⟩, 1, List.replicate 1 97)] (fun x hx => by
    simp only [List.mem_cons, List.not_mem_nil, or_false] at hx
    rcases hx with rfl | rfl
    · exact ⟨by simp, C_part h _ _ (by decide)⟩
    · exact ⟨by simp, C_part h _ _ (by decide)⟩) (by simp)
theorem row_w13 (h : w.heap[g8]? = some (.cells (w8 (List.replicate 65 97)) 5 (0, 0))) : (Kd.slice 5 (Kd.int .u8)).C (w.alloc (.cells #[.slice (some ⟨g8, 0, none⟩) 64 65] 22)) (some ⟨w.heap.size, 0, none⟩) 1 [List.replicate 64 97] :=
  row_new w [(some ⟨g8, 0, none⟩, 65, List.replicate 64 97)] (fun x hx => by
    simp only [List.mem_cons, List.not_mem_nil, or_false] at hx
    subst hx
    exact ⟨by simp, C_part h _ _ (by decide)⟩) (by simp)
theorem row_w19 (h : w.heap[g8]? = some (.cells (w8 (List.replicate 65 97)) 5 (0, 0))) : (Kd.slice 5 (Kd.int .u8)).C (w.alloc (.cells #[.slice (some ⟨g8, 0, none⟩) 1 65, .slice (some ⟨g8, 1, none⟩) 63 64] 22)) (some ⟨w.heap.size, 0, none⟩) 2 [List.replicate 1 97, List.replicate 63 97] :=
  row_new w [(some ⟨g8, 0, none⟩, 65, List.replicate 1 97), (some ⟨g8, 1, none⟩, 64, List.replicate 63 97)] (fun x hx => by
    simp only [List.mem_cons, List.not_mem_nil, or_false] at hx
    rcases hx with rfl | rfl
    · exact ⟨by simp, C_part h _ _ (by decide)⟩
    · exact ⟨by simp, C_part h _ _ (by decide)⟩) (by simp)

set_option maxRecDepth 100000 in
set_option maxHeartbeats 16000000 in
theorem reg17 (Q : Exit → Act → World → Prop) (W : World) (g8 : Nat) (u0 u1 u2 u3 u4 u5 u6 u7 u9 u10 u11 u12 u13 u14 u15 u16 u17 u18 u19 u20 u21 u22 u23 u24 u25 u26 u27 u28 u29 u30 u31 u32 u33 u34 u35 u36 u37 u38 u39 u40 u41 u42 u43 u44 u45 u46 u47 u48 u49 u50 u51 u52 u53 u54 u55 u56 u57 u58 u59 u60 u61 u62 u63 u64 u65 u66 u67 u68 u69 u70 u71 u72 u73 u74 u75 u76 u77 : Value)
    (ops : Array Oper) (hops : opsOf Try.f5 17 = ops)
    (h8 : W.heap[g8]? = some (.cells (w8 (List.replicate 65 97)) 5 (0, 0))) (hmx : Try.prog.follows .mixedOrders = true)
    (hQ : ∀ (y52 y53 y54 y55 y56 y57 y58 y59 y60 y61 y62 y63 y64 y65 y66 y67 y68 y69 y70 y71 y72 y73 y74 y75 y76 y77 : Value) W', Below W.heap.size W W' → Q .normal { tmps := #[.bool true, u1, u2, u3, u4, u5, u6, u7, .slice (some ⟨g8, 0, none⟩) 65 65, u9, u10, u11, u12, u13, u14, u15, u16, u17, u18, u19, u20, u21, u22, u23, u24, u25, u26, u27, u28, u29, u30, u31, u32, u33, u34, u35, u36, u37, u38, u39, u40, u41, u42, u43, u44, u45, u46, u47, u48, u49, u50, u51, y52, y53, y54, y55, y56, y57, y58, y59, y60, y61, y62, y63, y64, y65, y66, y67, y68, y69, y70, y71, y72, y73, y74, y75, y76, y77], defers := [] } W') :
    (Code.region 17 ops true).wp Try.prog Q { tmps := #[u0, u1, u2, u3, u4, u5, u6, u7, .slice (some ⟨g8, 0, none⟩) 65 65, u9, u10, u11, u12, u13, u14, u15, u16, u17, u18, u19, u20, u21, u22, u23, u24, u25, u26, u27, u28, u29, u30, u31, u32, u33, u34, u35, u36, u37, u38, u39, u40, u41, u42, u43, u44, u45, u46, u47, u48, u49, u50, u51, u52, u53, u54, u55, u56, u57, u58, u59, u60, u61, u62, u63, u64, u65, u66, u67, u68, u69, u70, u71, u72, u73, u74, u75, u76, u77], defers := [] } W := by
  subst hops
  have HQ := Aside0.mk hQ
  have ge := guard24
  have HH := Aside0.mk (show ∀ W', Below W.heap.size W W' → W'.heap[g8]? = some (.cells (w8 (List.replicate 65 97)) 5 (0, 0)) from fun W' hb => (hb.block g8 (lt_of_block h8)).trans h8)
  obtain ⟨s65, h65⟩ : ∃ s, sumB (List.replicate 65 97) = s := ⟨_, rfl⟩
  obtain ⟨s64, h64⟩ : ∃ s, sumB (List.replicate 64 97) = s := ⟨_, rfl⟩
  have eq65 := eql24_run s65 (h65 ▸ sumB_length _)
  have eq64 := eql24_run s64 (h64 ▸ sumB_length _)
  have HS65 := Aside0.mk h65
  have HS64 := Aside0.mk h64
  clear hQ h65 h64 h8
  simp only [opsOf, Try.f5, opsIn, Option.bind_some, Option.getD_some, Nat.reduceEqDiff, Nat.reduceBEq, ↓reduceIte, Bool.false_eq_true, if_false]
  refine wp_region_noPanic ?_
  refine wp_region_held_drew (S := (fun w' => Aside0 (Below W.heap.size W w'))) (by kernel_rfl) ⟨below_drew (Below.refl _ _)⟩ (fun hHeld => ?_)
  obtain ⟨W0, hW0⟩ : ∃ W0, W.drew = W0 := ⟨_, rfl⟩
  rw [hW0] at hHeld ⊢
  clear hW0
  refine tk0 (v := ?_) (by kernel_rfl) (by kernel_rfl) (by kernel_rfl) (fun _ _ _ h => h) (Or.inl ⟨by rfl, ?_⟩) hHeld ?_
  rotate_left; · (intro w hSw; (try dsimp only at hSw); go_simp; first | done | with_reducible rfl)
  try simp only [Act.put, List.setIfInBounds_toArray, List.set_cons_zero, List.set_cons_succ]
  refine tk3 (v := ?_) (by kernel_rfl) (by kernel_rfl) (by kernel_rfl) (fun _ _ _ h => h) (Or.inl ⟨by rfl, ?_⟩) hHeld ?_
  rotate_left; · (intro w hSw; (try dsimp only at hSw); go_simp; first | done | with_reducible rfl)
  try simp only [Act.put, List.setIfInBounds_toArray, List.set_cons_zero, List.set_cons_succ]
  refine tk4 (v := ?_) (by kernel_rfl) (by kernel_rfl) (by kernel_rfl) (fun _ _ _ h => h) (Or.inl ⟨by rfl, ?_⟩) hHeld ?_
  rotate_left; · (intro w hSw; (try dsimp only at hSw); go_simp; first | done | with_reducible rfl)
  try simp only [Act.put, List.setIfInBounds_toArray, List.set_cons_zero, List.set_cons_succ]
  refine tk5 (v := ?_) (by kernel_rfl) (by kernel_rfl) (by kernel_rfl) (fun _ _ _ h => h) (Or.inl ⟨by rfl, ?_⟩) hHeld ?_
  rotate_left; · (intro w hSw; (try dsimp only at hSw); go_simp; first | done | with_reducible rfl)
  try simp only [Act.put, List.setIfInBounds_toArray, List.set_cons_zero, List.set_cons_succ]
  refine tk6 (v := ?_) (by kernel_rfl) (by kernel_rfl) (by kernel_rfl) (fun _ _ _ h => h) (Or.inl ⟨by rfl, ?_⟩) hHeld ?_
  rotate_left; · (intro w hSw; (try dsimp only at hSw); go_simp; first | done | with_reducible rfl)
  try simp only [Act.put, List.setIfInBounds_toArray, List.set_cons_zero, List.set_cons_succ]
  refine br1_7 (by kernel_rfl) (fun K hK => ?_) (fun K hK => ?_)
  · skip
    go_simp
    have st := bst hHeld (.cells #[.slice (some ⟨g8, 0, none⟩) 65 65] 22)
    have H1 := Aside0.mk (bon_ hHeld.out st)
    have R1 := Aside0.mk (row_w1 (HH.out _ hHeld.out))
    clear st hHeld
    refine hK.out _ _ H1 (fun hHeld => ?_)
    clear hK K
    try simp only [Act.put, List.setIfInBounds_toArray, List.set_cons_zero, List.set_cons_succ]
    refine br2_7 (by kernel_rfl) (fun K hK => ?_) (fun K hK => ?_)
    · skip
      go_simp
      go_at_call 15
      have RR := R1.out
      try simp only [World.size_alloc] at RR
      have hcl := sum_calls2 _ 1 1 [List.replicate 65 97] (List.replicate 65 97) _ rfl (by decide) RR (by simp) (by simp)
      clear RR
      rw [HS65.out] at hcl
      refine hcl.mono ?_
      clear hcl
      rintro e w2 ⟨rfl, st⟩
      have H2 := Aside0.mk (bon_ hHeld.out st)
      clear st hHeld R1
      refine hK.out _ _ H2 (fun hHeld => ?_)
      clear hK K
      try simp only [Act.put, List.setIfInBounds_toArray, List.set_cons_zero, List.set_cons_succ]
      refine br7 (by kernel_rfl) (fun K hK => ?_)
      go_simp
      have st := bst hHeld (.cells #[.slice (some ⟨g8, 0, none⟩) 64 65, .slice (some ⟨g8, 64, none⟩) 1 1] 22)
      have H3 := Aside0.mk (bon_ hHeld.out st)
      have R7 := Aside0.mk (row_w7 (HH.out _ hHeld.out))
      clear st hHeld
      refine hK.out _ _ H3 (fun hHeld => ?_)
      clear hK K
      try simp only [Act.put, List.setIfInBounds_toArray, List.set_cons_zero, List.set_cons_succ]
      refine br8 (by kernel_rfl) (fun K hK => ?_)
      go_simp
      go_at_call 15
      have RR := R7.out
      try simp only [World.size_alloc] at RR
      have hcl := sum_calls2 _ 2 2 [List.replicate 64 97, List.replicate 1 97] (List.replicate 65 97) _ rfl (by decide) RR (by simp) (by simp)
      clear RR
      rw [HS65.out] at hcl
      refine hcl.mono ?_
      clear hcl
      rintro e w4 ⟨rfl, st⟩
      have H4 := Aside0.mk (bon_ hHeld.out st)
      clear st hHeld R7
      refine hK.out _ _ H4 (fun hHeld => ?_)
      clear hK K
      try simp only [Act.put, List.setIfInBounds_toArray, List.set_cons_zero, List.set_cons_succ]
      refine tk9 (v := ?_) (by kernel_rfl) (by kernel_rfl) (by kernel_rfl) (fun _ _ _ h => h) (Or.inl ⟨by rfl, ?_⟩) hHeld ?_
      rotate_left; · (intro w hSw; (try dsimp only at hSw); go_simp; first | done | with_reducible rfl)
      try simp only [Act.put, List.setIfInBounds_toArray, List.set_cons_zero, List.set_cons_succ]
      refine tk10 (v := ?_) (by kernel_rfl) (by kernel_rfl) (by kernel_rfl) (fun _ _ _ h => h) (Or.inl ⟨by rfl, ?_⟩) hHeld ?_
      rotate_left; · (intro w hSw; (try dsimp only at hSw); go_simp; first | done | with_reducible rfl)
      try simp only [Act.put, List.setIfInBounds_toArray, List.set_cons_zero, List.set_cons_succ]
      refine tk11 (v := ?_) (by kernel_rfl) (by kernel_rfl) (by kernel_rfl) (fun _ _ _ h => h) (Or.inl ⟨by rfl, ?_⟩) hHeld ?_
      rotate_left; · (intro w hSw; (try dsimp only at hSw); go_simp; first | done | with_reducible rfl)
      try simp only [Act.put, List.setIfInBounds_toArray, List.set_cons_zero, List.set_cons_succ]
      refine tk12 (v := ?_) (by kernel_rfl) (by kernel_rfl) (by kernel_rfl) (fun _ _ _ h => h) (Or.inl ⟨by rfl, ?_⟩) hHeld ?_
      rotate_left; · (intro w hSw; (try dsimp only at hSw); go_simp; first | done | with_reducible rfl)
      try simp only [Act.put, List.setIfInBounds_toArray, List.set_cons_zero, List.set_cons_succ]
      refine tk15 (v := ?_) (by kernel_rfl) (by kernel_rfl) (by kernel_rfl) (fun _ _ _ h => h) (Or.inl ⟨by rfl, ?_⟩) hHeld ?_
      rotate_left; · (intro w hSw; (try dsimp only at hSw); go_simp; first | done | with_reducible rfl)
      try simp only [Act.put, List.setIfInBounds_toArray, List.set_cons_zero, List.set_cons_succ]
      refine tk16 (v := ?_) (by kernel_rfl) (by kernel_rfl) (by kernel_rfl) (fun _ _ _ h => h) (Or.inl ⟨by rfl, ?_⟩) hHeld ?_
      rotate_left; · (intro w hSw; (try dsimp only at hSw); go_simp; first | done | with_reducible rfl)
      try simp only [Act.put, List.setIfInBounds_toArray, List.set_cons_zero, List.set_cons_succ]
      refine tk17 (v := ?_) (by kernel_rfl) (by kernel_rfl) (by kernel_rfl) (fun _ _ _ h => h) (Or.inl ⟨by rfl, ?_⟩) hHeld ?_
      rotate_left; · (intro w hSw; (try dsimp only at hSw); go_simp; first | done | with_reducible rfl)
      try simp only [Act.put, List.setIfInBounds_toArray, List.set_cons_zero, List.set_cons_succ]
      refine tk18 (v := ?_) (by kernel_rfl) (by kernel_rfl) (by kernel_rfl) (fun _ _ _ h => h) (Or.inl ⟨by rfl, ?_⟩) hHeld ?_
      rotate_left; · (intro w hSw; (try dsimp only at hSw); go_simp; first | done | with_reducible rfl)
      try simp only [Act.put, List.setIfInBounds_toArray, List.set_cons_zero, List.set_cons_succ]
      refine br13_19 (by kernel_rfl) (fun K hK => ?_) (fun K hK => ?_)
      · skip
        go_simp
        have st := bst hHeld (.cells #[.slice (some ⟨g8, 0, none⟩) 64 65] 22)
        have H5 := Aside0.mk (bon_ hHeld.out st)
        have R13 := Aside0.mk (row_w13 (HH.out _ hHeld.out))
        clear st hHeld
        refine hK.out _ _ H5 (fun hHeld => ?_)
        clear hK K
        try simp only [Act.put, List.setIfInBounds_toArray, List.set_cons_zero, List.set_cons_succ]
        refine br14_19 (by kernel_rfl) (fun K hK => ?_) (fun K hK => ?_)
        · skip
          go_simp
          go_at_call 15
          have RR := R13.out
          try simp only [World.size_alloc] at RR
          have hcl := sum_calls2 _ 1 1 [List.replicate 64 97] (List.replicate 64 97) _ rfl (by decide) RR (by simp) (by simp)
          clear RR
          rw [HS64.out] at hcl
          refine hcl.mono ?_
          clear hcl
          rintro e w6 ⟨rfl, st⟩
          have H6 := Aside0.mk (bon_ hHeld.out st)
          clear st hHeld R13
          refine hK.out _ _ H6 (fun hHeld => ?_)
          clear hK K
          try simp only [Act.put, List.setIfInBounds_toArray, List.set_cons_zero, List.set_cons_succ]
          refine br19 (by kernel_rfl) (fun K hK => ?_)
          go_simp
          have st := bst hHeld (.cells #[.slice (some ⟨g8, 0, none⟩) 1 65, .slice (some ⟨g8, 1, none⟩) 63 64] 22)
          have H7 := Aside0.mk (bon_ hHeld.out st)
          have R19 := Aside0.mk (row_w19 (HH.out _ hHeld.out))
          clear st hHeld
          refine hK.out _ _ H7 (fun hHeld => ?_)
          clear hK K
          try simp only [Act.put, List.setIfInBounds_toArray, List.set_cons_zero, List.set_cons_succ]
          refine br20 (by kernel_rfl) (fun K hK => ?_)
          go_simp
          go_at_call 15
          have RR := R19.out
          try simp only [World.size_alloc] at RR
          have hcl := sum_calls2 _ 2 2 [List.replicate 1 97, List.replicate 63 97] (List.replicate 64 97) _ rfl (by decide) RR (by simp) (by simp)
          clear RR
          rw [HS64.out] at hcl
          refine hcl.mono ?_
          clear hcl
          rintro e w8 ⟨rfl, st⟩
          have H8 := Aside0.mk (bon_ hHeld.out st)
          clear st hHeld R19
          refine hK.out _ _ H8 (fun hHeld => ?_)
          clear hK K
          try simp only [Act.put, List.setIfInBounds_toArray, List.set_cons_zero, List.set_cons_succ]
          refine tk21 (v := ?_) (by kernel_rfl) (by kernel_rfl) (by kernel_rfl) (fun _ _ _ h => h) (Or.inl ⟨by rfl, ?_⟩) hHeld ?_
          rotate_left; · (intro w hSw; (try dsimp only at hSw); go_simp; first | done | with_reducible rfl)
          try simp only [Act.put, List.setIfInBounds_toArray, List.set_cons_zero, List.set_cons_succ]
          refine tk22 (v := ?_) (by kernel_rfl) (by kernel_rfl) (by kernel_rfl) (fun _ _ _ h => h) (Or.inl ⟨by rfl, ?_⟩) hHeld ?_
          rotate_left; · (intro w hSw; (try dsimp only at hSw); go_simp; first | done | with_reducible rfl)
          try simp only [Act.put, List.setIfInBounds_toArray, List.set_cons_zero, List.set_cons_succ]
          refine tk23 (v := ?_) (by kernel_rfl) (by kernel_rfl) (by kernel_rfl) (fun _ _ _ h => h) (Or.inl ⟨by rfl, ?_⟩) hHeld ?_
          rotate_left; · (intro w hSw; (try dsimp only at hSw); go_simp; first | done | with_reducible rfl)
          try simp only [Act.put, List.setIfInBounds_toArray, List.set_cons_zero, List.set_cons_succ]
          refine br24 (by kernel_rfl) (fun K hK => ?_)
          go_simp
          go_at_call 14
          refine (wakes15_calls _).mono ?_
          rintro e w9 ⟨rfl, st⟩
          have H9 := Aside0.mk (bon_ hHeld.out st)
          clear st hHeld
          refine hK.out _ _ H9 (fun hHeld => ?_)
          clear hK K
          try simp only [Act.put, List.setIfInBounds_toArray, List.set_cons_zero, List.set_cons_succ]
          refine tk25 (v := ?_) (by kernel_rfl) (by kernel_rfl) (by kernel_rfl) (fun _ _ _ h => h) (Or.inl ⟨by rfl, ?_⟩) hHeld ?_
          rotate_left; · (intro w hSw; (try dsimp only at hSw); go_simp; first | done | with_reducible rfl)
          try simp only [Act.put, List.setIfInBounds_toArray, List.set_cons_zero, List.set_cons_succ]
          refine tk26 (v := ?_) (by kernel_rfl) (by kernel_rfl) (by kernel_rfl) (fun _ _ _ h => h) (Or.inl ⟨by rfl, ?_⟩) hHeld ?_
          rotate_left; · (intro w hSw; (try dsimp only at hSw); go_simp; first | done | with_reducible rfl)
          try simp only [Act.put, List.setIfInBounds_toArray, List.set_cons_zero, List.set_cons_succ]
          refine wpAnyH_done (by kernel_rfl) ?_ _
          refine NoPanic.normal ?_
          exact HQ.out _ _ _ _ _ _ _ _ _ _ _ _ _ _ _ _ _ _ _ _ _ _ _ _ _ _ _ hHeld.out
        · skip
          go_simp
          have st := bst hHeld (.cells #[.slice (some ⟨g8, 0, none⟩) 1 65, .slice (some ⟨g8, 1, none⟩) 63 64] 22)
          have H10 := Aside0.mk (bon_ hHeld.out st)
          have R13 := Aside0.mk (Kd.C_below R13.out st)
          have R19 := Aside0.mk (row_w19 (HH.out _ hHeld.out))
          clear st hHeld
          refine hK.out _ _ H10 (fun hHeld => ?_)
          clear hK K
          try simp only [Act.put, List.setIfInBounds_toArray, List.set_cons_zero, List.set_cons_succ]
          refine br14 (by kernel_rfl) (fun K hK => ?_)
          go_simp
          go_at_call 15
          have RR := R13.out
          try simp only [World.size_alloc] at RR
          have hcl := sum_calls2 _ 1 1 [List.replicate 64 97] (List.replicate 64 97) _ rfl (by decide) RR (by simp) (by simp)
          clear RR
          rw [HS64.out] at hcl
          refine hcl.mono ?_
          clear hcl
          rintro e w11 ⟨rfl, st⟩
          have H11 := Aside0.mk (bon_ hHeld.out st)
          have R19 := Aside0.mk (Kd.C_below R19.out st)
          clear st hHeld R13
          refine hK.out _ _ H11 (fun hHeld => ?_)
          clear hK K
          try simp only [Act.put, List.setIfInBounds_toArray, List.set_cons_zero, List.set_cons_succ]
          refine br20 (by kernel_rfl) (fun K hK => ?_)
          go_simp
          go_at_call 15
          have RR := R19.out
          try simp only [World.size_alloc] at RR
          have hcl := sum_calls2 _ 2 2 [List.replicate 1 97, List.replicate 63 97] (List.replicate 64 97) _ rfl (by decide) RR (by simp) (by simp)
          clear RR
          rw [HS64.out] at hcl
          refine hcl.mono ?_
          clear hcl
          rintro e w12 ⟨rfl, st⟩
          have H12 := Aside0.mk (bon_ hHeld.out st)
          clear st hHeld R19
          refine hK.out _ _ H12 (fun hHeld => ?_)
          clear hK K
          try simp only [Act.put, List.setIfInBounds_toArray, List.set_cons_zero, List.set_cons_succ]
          refine tk21 (v := ?_) (by kernel_rfl) (by kernel_rfl) (by kernel_rfl) (fun _ _ _ h => h) (Or.inl ⟨by rfl, ?_⟩) hHeld ?_
          rotate_left; · (intro w hSw; (try dsimp only at hSw); go_simp; first | done | with_reducible rfl)
          try simp only [Act.put, List.setIfInBounds_toArray, List.set_cons_zero, List.set_cons_succ]
          refine tk22 (v := ?_) (by kernel_rfl) (by kernel_rfl) (by kernel_rfl) (fun _ _ _ h => h) (Or.inl ⟨by rfl, ?_⟩) hHeld ?_
          rotate_left; · (intro w hSw; (try dsimp only at hSw); go_simp; first | done | with_reducible rfl)
          try simp only [Act.put, List.setIfInBounds_toArray, List.set_cons_zero, List.set_cons_succ]
          refine tk23 (v := ?_) (by kernel_rfl) (by kernel_rfl) (by kernel_rfl) (fun _ _ _ h => h) (Or.inl ⟨by rfl, ?_⟩) hHeld ?_
          rotate_left; · (intro w hSw; (try dsimp only at hSw); go_simp; first | done | with_reducible rfl)
          try simp only [Act.put, List.setIfInBounds_toArray, List.set_cons_zero, List.set_cons_succ]
          refine br24 (by kernel_rfl) (fun K hK => ?_)
          go_simp
          go_at_call 14
          refine (wakes15_calls _).mono ?_
          rintro e w13 ⟨rfl, st⟩
          have H13 := Aside0.mk (bon_ hHeld.out st)
          clear st hHeld
          refine hK.out _ _ H13 (fun hHeld => ?_)
          clear hK K
          try simp only [Act.put, List.setIfInBounds_toArray, List.set_cons_zero, List.set_cons_succ]
          refine tk25 (v := ?_) (by kernel_rfl) (by kernel_rfl) (by kernel_rfl) (fun _ _ _ h => h) (Or.inl ⟨by rfl, ?_⟩) hHeld ?_
          rotate_left; · (intro w hSw; (try dsimp only at hSw); go_simp; first | done | with_reducible rfl)
          try simp only [Act.put, List.setIfInBounds_toArray, List.set_cons_zero, List.set_cons_succ]
          refine tk26 (v := ?_) (by kernel_rfl) (by kernel_rfl) (by kernel_rfl) (fun _ _ _ h => h) (Or.inl ⟨by rfl, ?_⟩) hHeld ?_
          rotate_left; · (intro w hSw; (try dsimp only at hSw); go_simp; first | done | with_reducible rfl)
          try simp only [Act.put, List.setIfInBounds_toArray, List.set_cons_zero, List.set_cons_succ]
          refine wpAnyH_done (by kernel_rfl) ?_ _
          refine NoPanic.normal ?_
          exact HQ.out _ _ _ _ _ _ _ _ _ _ _ _ _ _ _ _ _ _ _ _ _ _ _ _ _ _ _ hHeld.out
      · skip
        go_simp
        have st := bst hHeld (.cells #[.slice (some ⟨g8, 0, none⟩) 1 65, .slice (some ⟨g8, 1, none⟩) 63 64] 22)
        have H14 := Aside0.mk (bon_ hHeld.out st)
        have R19 := Aside0.mk (row_w19 (HH.out _ hHeld.out))
        clear st hHeld
        refine hK.out _ _ H14 (fun hHeld => ?_)
        clear hK K
        try simp only [Act.put, List.setIfInBounds_toArray, List.set_cons_zero, List.set_cons_succ]
        refine br13 (by kernel_rfl) (fun K hK => ?_)
        go_simp
        have st := bst hHeld (.cells #[.slice (some ⟨g8, 0, none⟩) 64 65] 22)
        have H15 := Aside0.mk (bon_ hHeld.out st)
        have R19 := Aside0.mk (Kd.C_below R19.out st)
        have R13 := Aside0.mk (row_w13 (HH.out _ hHeld.out))
        clear st hHeld
        refine hK.out _ _ H15 (fun hHeld => ?_)
        clear hK K
        try simp only [Act.put, List.setIfInBounds_toArray, List.set_cons_zero, List.set_cons_succ]
        refine br14 (by kernel_rfl) (fun K hK => ?_)
        go_simp
        go_at_call 15
        have RR := R13.out
        try simp only [World.size_alloc] at RR
        have hcl := sum_calls2 _ 1 1 [List.replicate 64 97] (List.replicate 64 97) _ rfl (by decide) RR (by simp) (by simp)
        clear RR
        rw [HS64.out] at hcl
        refine hcl.mono ?_
        clear hcl
        rintro e w16 ⟨rfl, st⟩
        have H16 := Aside0.mk (bon_ hHeld.out st)
        have R19 := Aside0.mk (Kd.C_below R19.out st)
        clear st hHeld R13
        refine hK.out _ _ H16 (fun hHeld => ?_)
        clear hK K
        try simp only [Act.put, List.setIfInBounds_toArray, List.set_cons_zero, List.set_cons_succ]
        refine br20 (by kernel_rfl) (fun K hK => ?_)
        go_simp
        go_at_call 15
        have RR := R19.out
        try simp only [World.size_alloc] at RR
        have hcl := sum_calls2 _ 2 2 [List.replicate 1 97, List.replicate 63 97] (List.replicate 64 97) _ rfl (by decide) RR (by simp) (by simp)
        clear RR
        rw [HS64.out] at hcl
        refine hcl.mono ?_
        clear hcl
        rintro e w17 ⟨rfl, st⟩
        have H17 := Aside0.mk (bon_ hHeld.out st)
        clear st hHeld R19
        refine hK.out _ _ H17 (fun hHeld => ?_)
        clear hK K
        try simp only [Act.put, List.setIfInBounds_toArray, List.set_cons_zero, List.set_cons_succ]
        refine tk21 (v := ?_) (by kernel_rfl) (by kernel_rfl) (by kernel_rfl) (fun _ _ _ h => h) (Or.inl ⟨by rfl, ?_⟩) hHeld ?_
        rotate_left; · (intro w hSw; (try dsimp only at hSw); go_simp; first | done | with_reducible rfl)
        try simp only [Act.put, List.setIfInBounds_toArray, List.set_cons_zero, List.set_cons_succ]
        refine tk22 (v := ?_) (by kernel_rfl) (by kernel_rfl) (by kernel_rfl) (fun _ _ _ h => h) (Or.inl ⟨by rfl, ?_⟩) hHeld ?_
        rotate_left; · (intro w hSw; (try dsimp only at hSw); go_simp; first | done | with_reducible rfl)
        try simp only [Act.put, List.setIfInBounds_toArray, List.set_cons_zero, List.set_cons_succ]
        refine tk23 (v := ?_) (by kernel_rfl) (by kernel_rfl) (by kernel_rfl) (fun _ _ _ h => h) (Or.inl ⟨by rfl, ?_⟩) hHeld ?_
        rotate_left; · (intro w hSw; (try dsimp only at hSw); go_simp; first | done | with_reducible rfl)
        try simp only [Act.put, List.setIfInBounds_toArray, List.set_cons_zero, List.set_cons_succ]
        refine br24 (by kernel_rfl) (fun K hK => ?_)
        go_simp
        go_at_call 14
        refine (wakes15_calls _).mono ?_
        rintro e w18 ⟨rfl, st⟩
        have H18 := Aside0.mk (bon_ hHeld.out st)
        clear st hHeld
        refine hK.out _ _ H18 (fun hHeld => ?_)
        clear hK K
        try simp only [Act.put, List.setIfInBounds_toArray, List.set_cons_zero, List.set_cons_succ]
        refine tk25 (v := ?_) (by kernel_rfl) (by kernel_rfl) (by kernel_rfl) (fun _ _ _ h => h) (Or.inl ⟨by rfl, ?_⟩) hHeld ?_
        rotate_left; · (intro w hSw; (try dsimp only at hSw); go_simp; first | done | with_reducible rfl)
        try simp only [Act.put, List.setIfInBounds_toArray, List.set_cons_zero, List.set_cons_succ]
        refine tk26 (v := ?_) (by kernel_rfl) (by kernel_rfl) (by kernel_rfl) (fun _ _ _ h => h) (Or.inl ⟨by rfl, ?_⟩) hHeld ?_
        rotate_left; · (intro w hSw; (try dsimp only at hSw); go_simp; first | done | with_reducible rfl)
        try simp only [Act.put, List.setIfInBounds_toArray, List.set_cons_zero, List.set_cons_succ]
        refine wpAnyH_done (by kernel_rfl) ?_ _
        refine NoPanic.normal ?_
        exact HQ.out _ _ _ _ _ _ _ _ _ _ _ _ _ _ _ _ _ _ _ _ _ _ _ _ _ _ _ hHeld.out
    · skip
      go_simp
      have st := bst hHeld (.cells #[.slice (some ⟨g8, 0, none⟩) 64 65, .slice (some ⟨g8, 64, none⟩) 1 1] 22)
      have H19 := Aside0.mk (bon_ hHeld.out st)
      have R1 := Aside0.mk (Kd.C_below R1.out st)
      have R7 := Aside0.mk (row_w7 (HH.out _ hHeld.out))
      clear st hHeld
      refine hK.out _ _ H19 (fun hHeld => ?_)
      clear hK K
      try simp only [Act.put, List.setIfInBounds_toArray, List.set_cons_zero, List.set_cons_succ]
      refine br2 (by kernel_rfl) (fun K hK => ?_)
      go_simp
      go_at_call 15
      have RR := R1.out
      try simp only [World.size_alloc] at RR
      have hcl := sum_calls2 _ 1 1 [List.replicate 65 97] (List.replicate 65 97) _ rfl (by decide) RR (by simp) (by simp)
      clear RR
      rw [HS65.out] at hcl
      refine hcl.mono ?_
      clear hcl
      rintro e w20 ⟨rfl, st⟩
      have H20 := Aside0.mk (bon_ hHeld.out st)
      have R7 := Aside0.mk (Kd.C_below R7.out st)
      clear st hHeld R1
      refine hK.out _ _ H20 (fun hHeld => ?_)
      clear hK K
      try simp only [Act.put, List.setIfInBounds_toArray, List.set_cons_zero, List.set_cons_succ]
      refine br8 (by kernel_rfl) (fun K hK => ?_)
      go_simp
      go_at_call 15
      have RR := R7.out
      try simp only [World.size_alloc] at RR
      have hcl := sum_calls2 _ 2 2 [List.replicate 64 97, List.replicate 1 97] (List.replicate 65 97) _ rfl (by decide) RR (by simp) (by simp)
      clear RR
      rw [HS65.out] at hcl
      refine hcl.mono ?_
      clear hcl
      rintro e w21 ⟨rfl, st⟩
      have H21 := Aside0.mk (bon_ hHeld.out st)
      clear st hHeld R7
      refine hK.out _ _ H21 (fun hHeld => ?_)
      clear hK K
      try simp only [Act.put, List.setIfInBounds_toArray, List.set_cons_zero, List.set_cons_succ]
      refine tk9 (v := ?_) (by kernel_rfl) (by kernel_rfl) (by kernel_rfl) (fun _ _ _ h => h) (Or.inl ⟨by rfl, ?_⟩) hHeld ?_
      rotate_left; · (intro w hSw; (try dsimp only at hSw); go_simp; first | done | with_reducible rfl)
      try simp only [Act.put, List.setIfInBounds_toArray, List.set_cons_zero, List.set_cons_succ]
      refine tk10 (v := ?_) (by kernel_rfl) (by kernel_rfl) (by kernel_rfl) (fun _ _ _ h => h) (Or.inl ⟨by rfl, ?_⟩) hHeld ?_
      rotate_left; · (intro w hSw; (try dsimp only at hSw); go_simp; first | done | with_reducible rfl)
      try simp only [Act.put, List.setIfInBounds_toArray, List.set_cons_zero, List.set_cons_succ]
      refine tk11 (v := ?_) (by kernel_rfl) (by kernel_rfl) (by kernel_rfl) (fun _ _ _ h => h) (Or.inl ⟨by rfl, ?_⟩) hHeld ?_
      rotate_left; · (intro w hSw; (try dsimp only at hSw); go_simp; first | done | with_reducible rfl)
      try simp only [Act.put, List.setIfInBounds_toArray, List.set_cons_zero, List.set_cons_succ]
      refine tk12 (v := ?_) (by kernel_rfl) (by kernel_rfl) (by kernel_rfl) (fun _ _ _ h => h) (Or.inl ⟨by rfl, ?_⟩) hHeld ?_
      rotate_left; · (intro w hSw; (try dsimp only at hSw); go_simp; first | done | with_reducible rfl)
      try simp only [Act.put, List.setIfInBounds_toArray, List.set_cons_zero, List.set_cons_succ]
      refine tk15 (v := ?_) (by kernel_rfl) (by kernel_rfl) (by kernel_rfl) (fun _ _ _ h => h) (Or.inl ⟨by rfl, ?_⟩) hHeld ?_
      rotate_left; · (intro w hSw; (try dsimp only at hSw); go_simp; first | done | with_reducible rfl)
      try simp only [Act.put, List.setIfInBounds_toArray, List.set_cons_zero, List.set_cons_succ]
      refine tk16 (v := ?_) (by kernel_rfl) (by kernel_rfl) (by kernel_rfl) (fun _ _ _ h => h) (Or.inl ⟨by rfl, ?_⟩) hHeld ?_
      rotate_left; · (intro w hSw; (try dsimp only at hSw); go_simp; first | done | with_reducible rfl)
      try simp only [Act.put, List.setIfInBounds_toArray, List.set_cons_zero, List.set_cons_succ]
      refine tk17 (v := ?_) (by kernel_rfl) (by kernel_rfl) (by kernel_rfl) (fun _ _ _ h => h) (Or.inl ⟨by rfl, ?_⟩) hHeld ?_
      rotate_left; · (intro w hSw; (try dsimp only at hSw); go_simp; first | done | with_reducible rfl)
      try simp only [Act.put, List.setIfInBounds_toArray, List.set_cons_zero, List.set_cons_succ]
      refine tk18 (v := ?_) (by kernel_rfl) (by kernel_rfl) (by kernel_rfl) (fun _ _ _ h => h) (Or.inl ⟨by rfl, ?_⟩) hHeld ?_
      rotate_left; · (intro w hSw; (try dsimp only at hSw); go_simp; first | done | with_reducible rfl)
      try simp only [Act.put, List.setIfInBounds_toArray, List.set_cons_zero, List.set_cons_succ]
      refine br13_19 (by kernel_rfl) (fun K hK => ?_) (fun K hK => ?_)
      · skip
        go_simp
        have st := bst hHeld (.cells #[.slice (some ⟨g8, 0, none⟩) 64 65] 22)
        have H22 := Aside0.mk (bon_ hHeld.out st)
        have R13 := Aside0.mk (row_w13 (HH.out _ hHeld.out))
        clear st hHeld
        refine hK.out _ _ H22 (fun hHeld => ?_)
        clear hK K
        try simp only [Act.put, List.setIfInBounds_toArray, List.set_cons_zero, List.set_cons_succ]
        refine br14_19 (by kernel_rfl) (fun K hK => ?_) (fun K hK => ?_)
        · skip
          go_simp
          go_at_call 15
          have RR := R13.out
          try simp only [World.size_alloc] at RR
          have hcl := sum_calls2 _ 1 1 [List.replicate 64 97] (List.replicate 64 97) _ rfl (by decide) RR (by simp) (by simp)
          clear RR
          rw [HS64.out] at hcl
          refine hcl.mono ?_
          clear hcl
          rintro e w23 ⟨rfl, st⟩
          have H23 := Aside0.mk (bon_ hHeld.out st)
          clear st hHeld R13
          refine hK.out _ _ H23 (fun hHeld => ?_)
          clear hK K
          try simp only [Act.put, List.setIfInBounds_toArray, List.set_cons_zero, List.set_cons_succ]
          refine br19 (by kernel_rfl) (fun K hK => ?_)
          go_simp
          have st := bst hHeld (.cells #[.slice (some ⟨g8, 0, none⟩) 1 65, .slice (some ⟨g8, 1, none⟩) 63 64] 22)
          have H24 := Aside0.mk (bon_ hHeld.out st)
          have R19 := Aside0.mk (row_w19 (HH.out _ hHeld.out))
          clear st hHeld
          refine hK.out _ _ H24 (fun hHeld => ?_)
          clear hK K
          try simp only [Act.put, List.setIfInBounds_toArray, List.set_cons_zero, List.set_cons_succ]
          refine br20 (by kernel_rfl) (fun K hK => ?_)
          go_simp
          go_at_call 15
          have RR := R19.out
          try simp only [World.size_alloc] at RR
          have hcl := sum_calls2 _ 2 2 [List.replicate 1 97, List.replicate 63 97] (List.replicate 64 97) _ rfl (by decide) RR (by simp) (by simp)
          clear RR
          rw [HS64.out] at hcl
          refine hcl.mono ?_
          clear hcl
          rintro e w25 ⟨rfl, st⟩
          have H25 := Aside0.mk (bon_ hHeld.out st)
          clear st hHeld R19
          refine hK.out _ _ H25 (fun hHeld => ?_)
          clear hK K
          try simp only [Act.put, List.setIfInBounds_toArray, List.set_cons_zero, List.set_cons_succ]
          refine tk21 (v := ?_) (by kernel_rfl) (by kernel_rfl) (by kernel_rfl) (fun _ _ _ h => h) (Or.inl ⟨by rfl, ?_⟩) hHeld ?_
          rotate_left; · (intro w hSw; (try dsimp only at hSw); go_simp; first | done | with_reducible rfl)
          try simp only [Act.put, List.setIfInBounds_toArray, List.set_cons_zero, List.set_cons_succ]
          refine tk22 (v := ?_) (by kernel_rfl) (by kernel_rfl) (by kernel_rfl) (fun _ _ _ h => h) (Or.inl ⟨by rfl, ?_⟩) hHeld ?_
          rotate_left; · (intro w hSw; (try dsimp only at hSw); go_simp; first | done | with_reducible rfl)
          try simp only [Act.put, List.setIfInBounds_toArray, List.set_cons_zero, List.set_cons_succ]
          refine tk23 (v := ?_) (by kernel_rfl) (by kernel_rfl) (by kernel_rfl) (fun _ _ _ h => h) (Or.inl ⟨by rfl, ?_⟩) hHeld ?_
          rotate_left; · (intro w hSw; (try dsimp only at hSw); go_simp; first | done | with_reducible rfl)
          try simp only [Act.put, List.setIfInBounds_toArray, List.set_cons_zero, List.set_cons_succ]
          refine br24 (by kernel_rfl) (fun K hK => ?_)
          go_simp
          go_at_call 14
          refine (wakes15_calls _).mono ?_
          rintro e w26 ⟨rfl, st⟩
          have H26 := Aside0.mk (bon_ hHeld.out st)
          clear st hHeld
          refine hK.out _ _ H26 (fun hHeld => ?_)
          clear hK K
          try simp only [Act.put, List.setIfInBounds_toArray, List.set_cons_zero, List.set_cons_succ]
          refine tk25 (v := ?_) (by kernel_rfl) (by kernel_rfl) (by kernel_rfl) (fun _ _ _ h => h) (Or.inl ⟨by rfl, ?_⟩) hHeld ?_
          rotate_left; · (intro w hSw; (try dsimp only at hSw); go_simp; first | done | with_reducible rfl)
          try simp only [Act.put, List.setIfInBounds_toArray, List.set_cons_zero, List.set_cons_succ]
          refine tk26 (v := ?_) (by kernel_rfl) (by kernel_rfl) (by kernel_rfl) (fun _ _ _ h => h) (Or.inl ⟨by rfl, ?_⟩) hHeld ?_
          rotate_left; · (intro w hSw; (try dsimp only at hSw); go_simp; first | done | with_reducible rfl)
          try simp only [Act.put, List.setIfInBounds_toArray, List.set_cons_zero, List.set_cons_succ]
          refine wpAnyH_done (by kernel_rfl) ?_ _
          refine NoPanic.normal ?_
          exact HQ.out _ _ _ _ _ _ _ _ _ _ _ _ _ _ _ _ _ _ _ _ _ _ _ _ _ _ _ hHeld.out
        · skip
          go_simp
          have st := bst hHeld (.cells #[.slice (some ⟨g8, 0, none⟩) 1 65, .slice (some ⟨g8, 1, none⟩) 63 64] 22)
          have H27 := Aside0.mk (bon_ hHeld.out st)
          have R13 := Aside0.mk (Kd.C_below R13.out st)
          have R19 := Aside0.mk (row_w19 (HH.out _ hHeld.out))
          clear st hHeld
          refine hK.out _ _ H27 (fun hHeld => ?_)
          clear hK K
          try simp only [Act.put, List.setIfInBounds_toArray, List.set_cons_zero, List.set_cons_succ]
          refine br14 (by kernel_rfl) (fun K hK => ?_)
          go_simp
          go_at_call 15
          have RR := R13.out
          try simp only [World.size_alloc] at RR
          have hcl := sum_calls2 _ 1 1 [List.replicate 64 97] (List.replicate 64 97) _ rfl (by decide) RR (by simp) (by simp)
          clear RR
          rw [HS64.out] at hcl
          refine hcl.mono ?_
          clear hcl
          rintro e w28 ⟨rfl, st⟩
          have H28 := Aside0.mk (bon_ hHeld.out st)
          have R19 := Aside0.mk (Kd.C_below R19.out st)
          clear st hHeld R13
          refine hK.out _ _ H28 (fun hHeld => ?_)
          clear hK K
          try simp only [Act.put, List.setIfInBounds_toArray, List.set_cons_zero, List.set_cons_succ]
          refine br20 (by kernel_rfl) (fun K hK => ?_)
          go_simp
          go_at_call 15
          have RR := R19.out
          try simp only [World.size_alloc] at RR
          have hcl := sum_calls2 _ 2 2 [List.replicate 1 97, List.replicate 63 97] (List.replicate 64 97) _ rfl (by decide) RR (by simp) (by simp)
          clear RR
          rw [HS64.out] at hcl
          refine hcl.mono ?_
          clear hcl
          rintro e w29 ⟨rfl, st⟩
          have H29 := Aside0.mk (bon_ hHeld.out st)
          clear st hHeld R19
          refine hK.out _ _ H29 (fun hHeld => ?_)
          clear hK K
          try simp only [Act.put, List.setIfInBounds_toArray, List.set_cons_zero, List.set_cons_succ]
          refine tk21 (v := ?_) (by kernel_rfl) (by kernel_rfl) (by kernel_rfl) (fun _ _ _ h => h) (Or.inl ⟨by rfl, ?_⟩) hHeld ?_
          rotate_left; · (intro w hSw; (try dsimp only at hSw); go_simp; first | done | with_reducible rfl)
          try simp only [Act.put, List.setIfInBounds_toArray, List.set_cons_zero, List.set_cons_succ]
          refine tk22 (v := ?_) (by kernel_rfl) (by kernel_rfl) (by kernel_rfl) (fun _ _ _ h => h) (Or.inl ⟨by rfl, ?_⟩) hHeld ?_
          rotate_left; · (intro w hSw; (try dsimp only at hSw); go_simp; first | done | with_reducible rfl)
          try simp only [Act.put, List.setIfInBounds_toArray, List.set_cons_zero, List.set_cons_succ]
          refine tk23 (v := ?_) (by kernel_rfl) (by kernel_rfl) (by kernel_rfl) (fun _ _ _ h => h) (Or.inl ⟨by rfl, ?_⟩) hHeld ?_
          rotate_left; · (intro w hSw; (try dsimp only at hSw); go_simp; first | done | with_reducible rfl)
          try simp only [Act.put, List.setIfInBounds_toArray, List.set_cons_zero, List.set_cons_succ]
          refine br24 (by kernel_rfl) (fun K hK => ?_)
          go_simp
          go_at_call 14
          refine (wakes15_calls _).mono ?_
          rintro e w30 ⟨rfl, st⟩
          have H30 := Aside0.mk (bon_ hHeld.out st)
          clear st hHeld
          refine hK.out _ _ H30 (fun hHeld => ?_)
          clear hK K
          try simp only [Act.put, List.setIfInBounds_toArray, List.set_cons_zero, List.set_cons_succ]
          refine tk25 (v := ?_) (by kernel_rfl) (by kernel_rfl) (by kernel_rfl) (fun _ _ _ h => h) (Or.inl ⟨by rfl, ?_⟩) hHeld ?_
          rotate_left; · (intro w hSw; (try dsimp only at hSw); go_simp; first | done | with_reducible rfl)
          try simp only [Act.put, List.setIfInBounds_toArray, List.set_cons_zero, List.set_cons_succ]
          refine tk26 (v := ?_) (by kernel_rfl) (by kernel_rfl) (by kernel_rfl) (fun _ _ _ h => h) (Or.inl ⟨by rfl, ?_⟩) hHeld ?_
          rotate_left; · (intro w hSw; (try dsimp only at hSw); go_simp; first | done | with_reducible rfl)
          try simp only [Act.put, List.setIfInBounds_toArray, List.set_cons_zero, List.set_cons_succ]
          refine wpAnyH_done (by kernel_rfl) ?_ _
          refine NoPanic.normal ?_
          exact HQ.out _ _ _ _ _ _ _ _ _ _ _ _ _ _ _ _ _ _ _ _ _ _ _ _ _ _ _ hHeld.out
      · skip
        go_simp
        have st := bst hHeld (.cells #[.slice (some ⟨g8, 0, none⟩) 1 65, .slice (some ⟨g8, 1, none⟩) 63 64] 22)
        have H31 := Aside0.mk (bon_ hHeld.out st)
        have R19 := Aside0.mk (row_w19 (HH.out _ hHeld.out))
        clear st hHeld
        refine hK.out _ _ H31 (fun hHeld => ?_)
        clear hK K
        try simp only [Act.put, List.setIfInBounds_toArray, List.set_cons_zero, List.set_cons_succ]
        refine br13 (by kernel_rfl) (fun K hK => ?_)
        go_simp
        have st := bst hHeld (.cells #[.slice (some ⟨g8, 0, none⟩) 64 65] 22)
        have H32 := Aside0.mk (bon_ hHeld.out st)
        have R19 := Aside0.mk (Kd.C_below R19.out st)
        have R13 := Aside0.mk (row_w13 (HH.out _ hHeld.out))
        clear st hHeld
        refine hK.out _ _ H32 (fun hHeld => ?_)
        clear hK K
        try simp only [Act.put, List.setIfInBounds_toArray, List.set_cons_zero, List.set_cons_succ]
        refine br14 (by kernel_rfl) (fun K hK => ?_)
        go_simp
        go_at_call 15
        have RR := R13.out
        try simp only [World.size_alloc] at RR
        have hcl := sum_calls2 _ 1 1 [List.replicate 64 97] (List.replicate 64 97) _ rfl (by decide) RR (by simp) (by simp)
        clear RR
        rw [HS64.out] at hcl
        refine hcl.mono ?_
        clear hcl
        rintro e w33 ⟨rfl, st⟩
        have H33 := Aside0.mk (bon_ hHeld.out st)
        have R19 := Aside0.mk (Kd.C_below R19.out st)
        clear st hHeld R13
        refine hK.out _ _ H33 (fun hHeld => ?_)
        clear hK K
        try simp only [Act.put, List.setIfInBounds_toArray, List.set_cons_zero, List.set_cons_succ]
        refine br20 (by kernel_rfl) (fun K hK => ?_)
        go_simp
        go_at_call 15
        have RR := R19.out
        try simp only [World.size_alloc] at RR
        have hcl := sum_calls2 _ 2 2 [List.replicate 1 97, List.replicate 63 97] (List.replicate 64 97) _ rfl (by decide) RR (by simp) (by simp)
        clear RR
        rw [HS64.out] at hcl
        refine hcl.mono ?_
        clear hcl
        rintro e w34 ⟨rfl, st⟩
        have H34 := Aside0.mk (bon_ hHeld.out st)
        clear st hHeld R19
        refine hK.out _ _ H34 (fun hHeld => ?_)
        clear hK K
        try simp only [Act.put, List.setIfInBounds_toArray, List.set_cons_zero, List.set_cons_succ]
        refine tk21 (v := ?_) (by kernel_rfl) (by kernel_rfl) (by kernel_rfl) (fun _ _ _ h => h) (Or.inl ⟨by rfl, ?_⟩) hHeld ?_
        rotate_left; · (intro w hSw; (try dsimp only at hSw); go_simp; first | done | with_reducible rfl)
        try simp only [Act.put, List.setIfInBounds_toArray, List.set_cons_zero, List.set_cons_succ]
        refine tk22 (v := ?_) (by kernel_rfl) (by kernel_rfl) (by kernel_rfl) (fun _ _ _ h => h) (Or.inl ⟨by rfl, ?_⟩) hHeld ?_
        rotate_left; · (intro w hSw; (try dsimp only at hSw); go_simp; first | done | with_reducible rfl)
        try simp only [Act.put, List.setIfInBounds_toArray, List.set_cons_zero, List.set_cons_succ]
        refine tk23 (v := ?_) (by kernel_rfl) (by kernel_rfl) (by kernel_rfl) (fun _ _ _ h => h) (Or.inl ⟨by rfl, ?_⟩) hHeld ?_
        rotate_left; · (intro w hSw; (try dsimp only at hSw); go_simp; first | done | with_reducible rfl)
        try simp only [Act.put, List.setIfInBounds_toArray, List.set_cons_zero, List.set_cons_succ]
        refine br24 (by kernel_rfl) (fun K hK => ?_)
        go_simp
        go_at_call 14
        refine (wakes15_calls _).mono ?_
        rintro e w35 ⟨rfl, st⟩
        have H35 := Aside0.mk (bon_ hHeld.out st)
        clear st hHeld
        refine hK.out _ _ H35 (fun hHeld => ?_)
        clear hK K
        try simp only [Act.put, List.setIfInBounds_toArray, List.set_cons_zero, List.set_cons_succ]
        refine tk25 (v := ?_) (by kernel_rfl) (by kernel_rfl) (by kernel_rfl) (fun _ _ _ h => h) (Or.inl ⟨by rfl, ?_⟩) hHeld ?_
        rotate_left; · (intro w hSw; (try dsimp only at hSw); go_simp; first | done | with_reducible rfl)
        try simp only [Act.put, List.setIfInBounds_toArray, List.set_cons_zero, List.set_cons_succ]
        refine tk26 (v := ?_) (by kernel_rfl) (by kernel_rfl) (by kernel_rfl) (fun _ _ _ h => h) (Or.inl ⟨by rfl, ?_⟩) hHeld ?_
        rotate_left; · (intro w hSw; (try dsimp only at hSw); go_simp; first | done | with_reducible rfl)
        try simp only [Act.put, List.setIfInBounds_toArray, List.set_cons_zero, List.set_cons_succ]
        refine wpAnyH_done (by kernel_rfl) ?_ _
        refine NoPanic.normal ?_
        exact HQ.out _ _ _ _ _ _ _ _ _ _ _ _ _ _ _ _ _ _ _ _ _ _ _ _ _ _ _ hHeld.out
  · skip
    go_simp
    have st := bst hHeld (.cells #[.slice (some ⟨g8, 0, none⟩) 64 65, .slice (some ⟨g8, 64, none⟩) 1 1] 22)
    have H36 := Aside0.mk (bon_ hHeld.out st)
    have R7 := Aside0.mk (row_w7 (HH.out _ hHeld.out))
    clear st hHeld
    refine hK.out _ _ H36 (fun hHeld => ?_)
    clear hK K
    try simp only [Act.put, List.setIfInBounds_toArray, List.set_cons_zero, List.set_cons_succ]
    refine br1 (by kernel_rfl) (fun K hK => ?_)
    go_simp
    have st := bst hHeld (.cells #[.slice (some ⟨g8, 0, none⟩) 65 65] 22)
    have H37 := Aside0.mk (bon_ hHeld.out st)
    have R7 := Aside0.mk (Kd.C_below R7.out st)
    have R1 := Aside0.mk (row_w1 (HH.out _ hHeld.out))
    clear st hHeld
    refine hK.out _ _ H37 (fun hHeld => ?_)
    clear hK K
    try simp only [Act.put, List.setIfInBounds_toArray, List.set_cons_zero, List.set_cons_succ]
    refine br2 (by kernel_rfl) (fun K hK => ?_)
    go_simp
    go_at_call 15
    have RR := R1.out
    try simp only [World.size_alloc] at RR
    have hcl := sum_calls2 _ 1 1 [List.replicate 65 97] (List.replicate 65 97) _ rfl (by decide) RR (by simp) (by simp)
    clear RR
    rw [HS65.out] at hcl
    refine hcl.mono ?_
    clear hcl
    rintro e w38 ⟨rfl, st⟩
    have H38 := Aside0.mk (bon_ hHeld.out st)
    have R7 := Aside0.mk (Kd.C_below R7.out st)
    clear st hHeld R1
    refine hK.out _ _ H38 (fun hHeld => ?_)
    clear hK K
    try simp only [Act.put, List.setIfInBounds_toArray, List.set_cons_zero, List.set_cons_succ]
    refine br8 (by kernel_rfl) (fun K hK => ?_)
    go_simp
    go_at_call 15
    have RR := R7.out
    try simp only [World.size_alloc] at RR
    have hcl := sum_calls2 _ 2 2 [List.replicate 64 97, List.replicate 1 97] (List.replicate 65 97) _ rfl (by decide) RR (by simp) (by simp)
    clear RR
    rw [HS65.out] at hcl
    refine hcl.mono ?_
    clear hcl
    rintro e w39 ⟨rfl, st⟩
    have H39 := Aside0.mk (bon_ hHeld.out st)
    clear st hHeld R7
    refine hK.out _ _ H39 (fun hHeld => ?_)
    clear hK K
    try simp only [Act.put, List.setIfInBounds_toArray, List.set_cons_zero, List.set_cons_succ]
    refine tk9 (v := ?_) (by kernel_rfl) (by kernel_rfl) (by kernel_rfl) (fun _ _ _ h => h) (Or.inl ⟨by rfl, ?_⟩) hHeld ?_
    rotate_left; · (intro w hSw; (try dsimp only at hSw); go_simp; first | done | with_reducible rfl)
    try simp only [Act.put, List.setIfInBounds_toArray, List.set_cons_zero, List.set_cons_succ]
    refine tk10 (v := ?_) (by kernel_rfl) (by kernel_rfl) (by kernel_rfl) (fun _ _ _ h => h) (Or.inl ⟨by rfl, ?_⟩) hHeld ?_
    rotate_left; · (intro w hSw; (try dsimp only at hSw); go_simp; first | done | with_reducible rfl)
    try simp only [Act.put, List.setIfInBounds_toArray, List.set_cons_zero, List.set_cons_succ]
    refine tk11 (v := ?_) (by kernel_rfl) (by kernel_rfl) (by kernel_rfl) (fun _ _ _ h => h) (Or.inl ⟨by rfl, ?_⟩) hHeld ?_
    rotate_left; · (intro w hSw; (try dsimp only at hSw); go_simp; first | done | with_reducible rfl)
    try simp only [Act.put, List.setIfInBounds_toArray, List.set_cons_zero, List.set_cons_succ]
    refine tk12 (v := ?_) (by kernel_rfl) (by kernel_rfl) (by kernel_rfl) (fun _ _ _ h => h) (Or.inl ⟨by rfl, ?_⟩) hHeld ?_
    rotate_left; · (intro w hSw; (try dsimp only at hSw); go_simp; first | done | with_reducible rfl)
    try simp only [Act.put, List.setIfInBounds_toArray, List.set_cons_zero, List.set_cons_succ]
    refine tk15 (v := ?_) (by kernel_rfl) (by kernel_rfl) (by kernel_rfl) (fun _ _ _ h => h) (Or.inl ⟨by rfl, ?_⟩) hHeld ?_
    rotate_left; · (intro w hSw; (try dsimp only at hSw); go_simp; first | done | with_reducible rfl)
    try simp only [Act.put, List.setIfInBounds_toArray, List.set_cons_zero, List.set_cons_succ]
    refine tk16 (v := ?_) (by kernel_rfl) (by kernel_rfl) (by kernel_rfl) (fun _ _ _ h => h) (Or.inl ⟨by rfl, ?_⟩) hHeld ?_
    rotate_left; · (intro w hSw; (try dsimp only at hSw); go_simp; first | done | with_reducible rfl)
    try simp only [Act.put, List.setIfInBounds_toArray, List.set_cons_zero, List.set_cons_succ]
    refine tk17 (v := ?_) (by kernel_rfl) (by kernel_rfl) (by kernel_rfl) (fun _ _ _ h => h) (Or.inl ⟨by rfl, ?_⟩) hHeld ?_
    rotate_left; · (intro w hSw; (try dsimp only at hSw); go_simp; first | done | with_reducible rfl)
    try simp only [Act.put, List.setIfInBounds_toArray, List.set_cons_zero, List.set_cons_succ]
    refine tk18 (v := ?_) (by kernel_rfl) (by kernel_rfl) (by kernel_rfl) (fun _ _ _ h => h) (Or.inl ⟨by rfl, ?_⟩) hHeld ?_
    rotate_left; · (intro w hSw; (try dsimp only at hSw); go_simp; first | done | with_reducible rfl)
    try simp only [Act.put, List.setIfInBounds_toArray, List.set_cons_zero, List.set_cons_succ]
    refine br13_19 (by kernel_rfl) (fun K hK => ?_) (fun K hK => ?_)
    · skip
      go_simp
      have st := bst hHeld (.cells #[.slice (some ⟨g8, 0, none⟩) 64 65] 22)
      have H40 := Aside0.mk (bon_ hHeld.out st)
      have R13 := Aside0.mk (row_w13 (HH.out _ hHeld.out))
      clear st hHeld
      refine hK.out _ _ H40 (fun hHeld => ?_)
      clear hK K
      try simp only [Act.put, List.setIfInBounds_toArray, List.set_cons_zero, List.set_cons_succ]
      refine br14_19 (by kernel_rfl) (fun K hK => ?_) (fun K hK => ?_)
      · skip
        go_simp
        go_at_call 15
        have RR := R13.out
        try simp only [World.size_alloc] at RR
        have hcl := sum_calls2 _ 1 1 [List.replicate 64 97] (List.replicate 64 97) _ rfl (by decide) RR (by simp) (by simp)
        clear RR
        rw [HS64.out] at hcl
        refine hcl.mono ?_
        clear hcl
        rintro e w41 ⟨rfl, st⟩
        have H41 := Aside0.mk (bon_ hHeld.out st)
        clear st hHeld R13
        refine hK.out _ _ H41 (fun hHeld => ?_)
        clear hK K
        try simp only [Act.put, List.setIfInBounds_toArray, List.set_cons_zero, List.set_cons_succ]
        refine br19 (by kernel_rfl) (fun K hK => ?_)
        go_simp
        have st := bst hHeld (.cells #[.slice (some ⟨g8, 0, none⟩) 1 65, .slice (some ⟨g8, 1, none⟩) 63 64] 22)
        have H42 := Aside0.mk (bon_ hHeld.out st)
        have R19 := Aside0.mk (row_w19 (HH.out _ hHeld.out))
        clear st hHeld
        refine hK.out _ _ H42 (fun hHeld => ?_)
        clear hK K
        try simp only [Act.put, List.setIfInBounds_toArray, List.set_cons_zero, List.set_cons_succ]
        refine br20 (by kernel_rfl) (fun K hK => ?_)
        go_simp
        go_at_call 15
        have RR := R19.out
        try simp only [World.size_alloc] at RR
        have hcl := sum_calls2 _ 2 2 [List.replicate 1 97, List.replicate 63 97] (List.replicate 64 97) _ rfl (by decide) RR (by simp) (by simp)
        clear RR
        rw [HS64.out] at hcl
        refine hcl.mono ?_
        clear hcl
        rintro e w43 ⟨rfl, st⟩
        have H43 := Aside0.mk (bon_ hHeld.out st)
        clear st hHeld R19
        refine hK.out _ _ H43 (fun hHeld => ?_)
        clear hK K
        try simp only [Act.put, List.setIfInBounds_toArray, List.set_cons_zero, List.set_cons_succ]
        refine tk21 (v := ?_) (by kernel_rfl) (by kernel_rfl) (by kernel_rfl) (fun _ _ _ h => h) (Or.inl ⟨by rfl, ?_⟩) hHeld ?_
        rotate_left; · (intro w hSw; (try dsimp only at hSw); go_simp; first | done | with_reducible rfl)
        try simp only [Act.put, List.setIfInBounds_toArray, List.set_cons_zero, List.set_cons_succ]
        refine tk22 (v := ?_) (by kernel_rfl) (by kernel_rfl) (by kernel_rfl) (fun _ _ _ h => h) (Or.inl ⟨by rfl, ?_⟩) hHeld ?_
        rotate_left; · (intro w hSw; (try dsimp only at hSw); go_simp; first | done | with_reducible rfl)
        try simp only [Act.put, List.setIfInBounds_toArray, List.set_cons_zero, List.set_cons_succ]
        refine tk23 (v := ?_) (by kernel_rfl) (by kernel_rfl) (by kernel_rfl) (fun _ _ _ h => h) (Or.inl ⟨by rfl, ?_⟩) hHeld ?_
        rotate_left; · (intro w hSw; (try dsimp only at hSw); go_simp; first | done | with_reducible rfl)
        try simp only [Act.put, List.setIfInBounds_toArray, List.set_cons_zero, List.set_cons_succ]
        refine br24 (by kernel_rfl) (fun K hK => ?_)
        go_simp
        go_at_call 14
        refine (wakes15_calls _).mono ?_
        rintro e w44 ⟨rfl, st⟩
        have H44 := Aside0.mk (bon_ hHeld.out st)
        clear st hHeld
        refine hK.out _ _ H44 (fun hHeld => ?_)
        clear hK K
        try simp only [Act.put, List.setIfInBounds_toArray, List.set_cons_zero, List.set_cons_succ]
        refine tk25 (v := ?_) (by kernel_rfl) (by kernel_rfl) (by kernel_rfl) (fun _ _ _ h => h) (Or.inl ⟨by rfl, ?_⟩) hHeld ?_
        rotate_left; · (intro w hSw; (try dsimp only at hSw); go_simp; first | done | with_reducible rfl)
        try simp only [Act.put, List.setIfInBounds_toArray, List.set_cons_zero, List.set_cons_succ]
        refine tk26 (v := ?_) (by kernel_rfl) (by kernel_rfl) (by kernel_rfl) (fun _ _ _ h => h) (Or.inl ⟨by rfl, ?_⟩) hHeld ?_
        rotate_left; · (intro w hSw; (try dsimp only at hSw); go_simp; first | done | with_reducible rfl)
        try simp only [Act.put, List.setIfInBounds_toArray, List.set_cons_zero, List.set_cons_succ]
        refine wpAnyH_done (by kernel_rfl) ?_ _
        refine NoPanic.normal ?_
        exact HQ.out _ _ _ _ _ _ _ _ _ _ _ _ _ _ _ _ _ _ _ _ _ _ _ _ _ _ _ hHeld.out
      · skip
        go_simp
        have st := bst hHeld (.cells #[.slice (some ⟨g8, 0, none⟩) 1 65, .slice (some ⟨g8, 1, none⟩) 63 64] 22)
        have H45 := Aside0.mk (bon_ hHeld.out st)
        have R13 := Aside0.mk (Kd.C_below R13.out st)
        have R19 := Aside0.mk (row_w19 (HH.out _ hHeld.out))
        clear st hHeld
        refine hK.out _ _ H45 (fun hHeld => ?_)
        clear hK K
        try simp only [Act.put, List.setIfInBounds_toArray, List.set_cons_zero, List.set_cons_succ]
        refine br14 (by kernel_rfl) (fun K hK => ?_)
        go_simp
        go_at_call 15
        have RR := R13.out
        try simp only [World.size_alloc] at RR
        have hcl := sum_calls2 _ 1 1 [List.replicate 64 97] (List.replicate 64 97) _ rfl (by decide) RR (by simp) (by simp)
        clear RR
        rw [HS64.out] at hcl
        refine hcl.mono ?_
        clear hcl
        rintro e w46 ⟨rfl, st⟩
        have H46 := Aside0.mk (bon_ hHeld.out st)
        have R19 := Aside0.mk (Kd.C_below R19.out st)
        clear st hHeld R13
        refine hK.out _ _ H46 (fun hHeld => ?_)
        clear hK K
        try simp only [Act.put, List.setIfInBounds_toArray, List.set_cons_zero, List.set_cons_succ]
        refine br20 (by kernel_rfl) (fun K hK => ?_)
        go_simp
        go_at_call 15
        have RR := R19.out
        try simp only [World.size_alloc] at RR
        have hcl := sum_calls2 _ 2 2 [List.replicate 1 97, List.replicate 63 97] (List.replicate 64 97) _ rfl (by decide) RR (by simp) (by simp)
        clear RR
        rw [HS64.out] at hcl
        refine hcl.mono ?_
        clear hcl
        rintro e w47 ⟨rfl, st⟩
        have H47 := Aside0.mk (bon_ hHeld.out st)
        clear st hHeld R19
        refine hK.out _ _ H47 (fun hHeld => ?_)
        clear hK K
        try simp only [Act.put, List.setIfInBounds_toArray, List.set_cons_zero, List.set_cons_succ]
        refine tk21 (v := ?_) (by kernel_rfl) (by kernel_rfl) (by kernel_rfl) (fun _ _ _ h => h) (Or.inl ⟨by rfl, ?_⟩) hHeld ?_
        rotate_left; · (intro w hSw; (try dsimp only at hSw); go_simp; first | done | with_reducible rfl)
        try simp only [Act.put, List.setIfInBounds_toArray, List.set_cons_zero, List.set_cons_succ]
        refine tk22 (v := ?_) (by kernel_rfl) (by kernel_rfl) (by kernel_rfl) (fun _ _ _ h => h) (Or.inl ⟨by rfl, ?_⟩) hHeld ?_
        rotate_left; · (intro w hSw; (try dsimp only at hSw); go_simp; first | done | with_reducible rfl)
        try simp only [Act.put, List.setIfInBounds_toArray, List.set_cons_zero, List.set_cons_succ]
        refine tk23 (v := ?_) (by kernel_rfl) (by kernel_rfl) (by kernel_rfl) (fun _ _ _ h => h) (Or.inl ⟨by rfl, ?_⟩) hHeld ?_
        rotate_left; · (intro w hSw; (try dsimp only at hSw); go_simp; first | done | with_reducible rfl)
        try simp only [Act.put, List.setIfInBounds_toArray, List.set_cons_zero, List.set_cons_succ]
        refine br24 (by kernel_rfl) (fun K hK => ?_)
        go_simp
        go_at_call 14
        refine (wakes15_calls _).mono ?_
        rintro e w48 ⟨rfl, st⟩
        have H48 := Aside0.mk (bon_ hHeld.out st)
        clear st hHeld
        refine hK.out _ _ H48 (fun hHeld => ?_)
        clear hK K
        try simp only [Act.put, List.setIfInBounds_toArray, List.set_cons_zero, List.set_cons_succ]
        refine tk25 (v := ?_) (by kernel_rfl) (by kernel_rfl) (by kernel_rfl) (fun _ _ _ h => h) (Or.inl ⟨by rfl, ?_⟩) hHeld ?_
        rotate_left; · (intro w hSw; (try dsimp only at hSw); go_simp; first | done | with_reducible rfl)
        try simp only [Act.put, List.setIfInBounds_toArray, List.set_cons_zero, List.set_cons_succ]
        refine tk26 (v := ?_) (by kernel_rfl) (by kernel_rfl) (by kernel_rfl) (fun _ _ _ h => h) (Or.inl ⟨by rfl, ?_⟩) hHeld ?_
        rotate_left; · (intro w hSw; (try dsimp only at hSw); go_simp; first | done | with_reducible rfl)
        try simp only [Act.put, List.setIfInBounds_toArray, List.set_cons_zero, List.set_cons_succ]
        refine wpAnyH_done (by kernel_rfl) ?_ _
        refine NoPanic.normal ?_
        exact HQ.out _ _ _ _ _ _ _ _ _ _ _ _ _ _ _ _ _ _ _ _ _ _ _ _ _ _ _ hHeld.out
    · skip
      go_simp
      have st := bst hHeld (.cells #[.slice (some ⟨g8, 0, none⟩) 1 65, .slice (some ⟨g8, 1, none⟩) 63 64] 22)
      have H49 := Aside0.mk (bon_ hHeld.out st)
      have R19 := Aside0.mk (row_w19 (HH.out _ hHeld.out))
      clear st hHeld
      refine hK.out _ _ H49 (fun hHeld => ?_)
      clear hK K
      try simp only [Act.put, List.setIfInBounds_toArray, List.set_cons_zero, List.set_cons_succ]
      refine br13 (by kernel_rfl) (fun K hK => ?_)
      go_simp
      have st := bst hHeld (.cells #[.slice (some ⟨g8, 0, none⟩) 64 65] 22)
      have H50 := Aside0.mk (bon_ hHeld.out st)
      have R19 := Aside0.mk (Kd.C_below R19.out st)
      have R13 := Aside0.mk (row_w13 (HH.out _ hHeld.out))
      clear st hHeld
      refine hK.out _ _ H50 (fun hHeld => ?_)
      clear hK K
      try simp only [Act.put, List.setIfInBounds_toArray, List.set_cons_zero, List.set_cons_succ]
      refine br14 (by kernel_rfl) (fun K hK => ?_)
      go_simp
      go_at_call 15
      have RR := R13.out
      try simp only [World.size_alloc] at RR
      have hcl := sum_calls2 _ 1 1 [List.replicate 64 97] (List.replicate 64 97) _ rfl (by decide) RR (by simp) (by simp)
      clear RR
      rw [HS64.out] at hcl
      refine hcl.mono ?_
      clear hcl
      rintro e w51 ⟨rfl, st⟩
      have H51 := Aside0.mk (bon_ hHeld.out st)
      have R19 := Aside0.mk (Kd.C_below R19.out st)
      clear st hHeld R13
      refine hK.out _ _ H51 (fun hHeld => ?_)
      clear hK K
      try simp only [Act.put, List.setIfInBounds_toArray, List.set_cons_zero, List.set_cons_succ]
      refine br20 (by kernel_rfl) (fun K hK => ?_)
      go_simp
      go_at_call 15
      have RR := R19.out
      try simp only [World.size_alloc] at RR
      have hcl := sum_calls2 _ 2 2 [List.replicate 1 97, List.replicate 63 97] (List.replicate 64 97) _ rfl (by decide) RR (by simp) (by simp)
      clear RR
      rw [HS64.out] at hcl
      refine hcl.mono ?_
      clear hcl
      rintro e w52 ⟨rfl, st⟩
      have H52 := Aside0.mk (bon_ hHeld.out st)
      clear st hHeld R19
      refine hK.out _ _ H52 (fun hHeld => ?_)
      clear hK K
      try simp only [Act.put, List.setIfInBounds_toArray, List.set_cons_zero, List.set_cons_succ]
      refine tk21 (v := ?_) (by kernel_rfl) (by kernel_rfl) (by kernel_rfl) (fun _ _ _ h => h) (Or.inl ⟨by rfl, ?_⟩) hHeld ?_
      rotate_left; · (intro w hSw; (try dsimp only at hSw); go_simp; first | done | with_reducible rfl)
      try simp only [Act.put, List.setIfInBounds_toArray, List.set_cons_zero, List.set_cons_succ]
      refine tk22 (v := ?_) (by kernel_rfl) (by kernel_rfl) (by kernel_rfl) (fun _ _ _ h => h) (Or.inl ⟨by rfl, ?_⟩) hHeld ?_
      rotate_left; · (intro w hSw; (try dsimp only at hSw); go_simp; first | done | with_reducible rfl)
      try simp only [Act.put, List.setIfInBounds_toArray, List.set_cons_zero, List.set_cons_succ]
      refine tk23 (v := ?_) (by kernel_rfl) (by kernel_rfl) (by kernel_rfl) (fun _ _ _ h => h) (Or.inl ⟨by rfl, ?_⟩) hHeld ?_
      rotate_left; · (intro w hSw; (try dsimp only at hSw); go_simp; first | done | with_reducible rfl)
      try simp only [Act.put, List.setIfInBounds_toArray, List.set_cons_zero, List.set_cons_succ]
      refine br24 (by kernel_rfl) (fun K hK => ?_)
      go_simp
      go_at_call 14
      refine (wakes15_calls _).mono ?_
      rintro e w53 ⟨rfl, st⟩
      have H53 := Aside0.mk (bon_ hHeld.out st)
      clear st hHeld
      refine hK.out _ _ H53 (fun hHeld => ?_)
      clear hK K
      try simp only [Act.put, List.setIfInBounds_toArray, List.set_cons_zero, List.set_cons_succ]
      refine tk25 (v := ?_) (by kernel_rfl) (by kernel_rfl) (by kernel_rfl) (fun _ _ _ h => h) (Or.inl ⟨by rfl, ?_⟩) hHeld ?_
      rotate_left; · (intro w hSw; (try dsimp only at hSw); go_simp; first | done | with_reducible rfl)
      try simp only [Act.put, List.setIfInBounds_toArray, List.set_cons_zero, List.set_cons_succ]
      refine tk26 (v := ?_) (by kernel_rfl) (by kernel_rfl) (by kernel_rfl) (fun _ _ _ h => h) (Or.inl ⟨by rfl, ?_⟩) hHeld ?_
      rotate_left; · (intro w hSw; (try dsimp only at hSw); go_simp; first | done | with_reducible rfl)
      try simp only [Act.put, List.setIfInBounds_toArray, List.set_cons_zero, List.set_cons_succ]
      refine wpAnyH_done (by kernel_rfl) ?_ _
      refine NoPanic.normal ?_
      exact HQ.out _ _ _ _ _ _ _ _ _ _ _ _ _ _ _ _ _ _ _ _ _ _ _ _ _ _ _ hHeld.out
end Go.Proofs.Ytokadjfakncdfaa
