/- Small laws on bytes as strings, and the last region of NatTells. -/
import Derived.Test.YtokadjfakncdfaaGB
import Derived.Test.YtokadjfakncdfaaWRepsOne
import Derived.Laws.BytesArg
import Derived.Deep.QuietTactic
import Derived.Test.YtokadjfakncdfaaGC
import Derived.Deep.RegionHeld3
import Derived.Deep.DrawnRows
section
set_option linter.unusedVariables false
set_option linter.unusedSimpArgs false
namespace Go.Proofs.Ytokadjfakncdfaa
open Go.RowKit Go.Proofs.YtokadjfakncdfaaW.PrintWords Go.Proofs.YtokadjfakncdfaaW.PrintLast Go.Proofs.YtokadjfakncdfaaW.PrintMore
open PR

theorem RO.lit1 (k : IntKind) (e : Nat) (x : Int) (w : World) : RO k e (w.alloc (.cells #[.int k x] e)) w.heap.size (.slice (some ⟨w.heap.size, 0, none⟩) 1 1) [x] := by
  refine ⟨fun b hb => ?_, [.int k x], ⟨rfl, .inr ⟨w.heap.size, 1, #[.int k x], rfl, Nat.le_refl _, heap_alloc_new w _, Nat.le_refl _, by simp [maxLen], rfl, rfl⟩⟩, Reps.one ?_ (Reps.none _ _)⟩
  · simp [Value.ownBlock] at hb
    omega
  · rfl
theorem RL.c {k : IntKind} {w : World} {a : Option Addr} {l c : Nat} {xs : List Int} (h : RL k w (.slice a l c) xs) : (Kd.int k).C w a xs.length xs := by
  obtain ⟨A, c', he, _, hC⟩ := h
  cases he
  exact hC
theorem RL.len {k : IntKind} {w : World} {a : Option Addr} {l c : Nat} {xs : List Int} (h : RL k w (.slice a l c) xs) : l = xs.length := by
  obtain ⟨A, c', he, _, hC⟩ := h
  cases he
  rfl
theorem cmpI_eq {x y : Int} (h : x = y) : cmpI x y = 0 := by rw [h, cmpI_self]
theorem cmp_v {w : World} {va vb : Value} {x y c : Int} {la lb : Nat} (ha : DN w va x la) (hb : DN w vb y lb) (h1 : la ≤ 2000) (h2 : lb ≤ 2000) (hc : cmpI x y = c) :
    Calls Try.prog 18 #[va, vb] w fun e w' => e = .returned (.int .i64 c) ∧ Below w.heap.size w w' := by
  subst hc
  exact cmp_n ha hb h1 h2

end Go.Proofs.Ytokadjfakncdfaa
end

section
set_option linter.unusedVariables false
set_option linter.unusedSimpArgs false
namespace Go.Proofs.Ytokadjfakncdfaa
open Go.RowKit Go.Proofs.YtokadjfakncdfaaW.PrintWords Go.Proofs.YtokadjfakncdfaaW.PrintLast Go.Proofs.YtokadjfakncdfaaW.PrintMore
open PR

def strB (xs : List Int) : ByteArray := xs.foldl (fun r n => r.push (UInt8.ofNat n.toNat)) ByteArray.empty
theorem RL.c8 {k : IntKind} {w : World} {a : Option Addr} {l c : Nat} {xs : List Int} (h : RL k w (.slice a l c) xs) : (Kd.int k).C w a xs.length xs := by
  obtain ⟨A, c', he, _, hC⟩ := h
  cases he
  exact hC
theorem RL.len8 {k : IntKind} {w : World} {a : Option Addr} {l c : Nat} {xs : List Int} (h : RL k w (.slice a l c) xs) : l = xs.length := by
  obtain ⟨A, c', he, _, hC⟩ := h
  cases he
  rfl
theorem str_run {W : World} {a : Option Addr} {l c : Nat} {xs : List Int} (h : RL .u8 W (.slice a l c) xs) : (convert 22 9 (.slice a l c)).run Try.prog W = .ok (.string (strB xs)) W := by
  have hC := h.c8
  have hl := h.len8
  subst hl
  rcases Nat.eq_zero_or_pos xs.length with h0 | h0
  · obtain rfl := List.eq_nil_of_length_eq_zero h0
    cases a with
    | none => exact run_convert_bytes_nil W 22 5 Try.underlying22 Try.underlying5 _ _ 9 Try.underlying9
    | some ad =>
      rw [run_convert_bytes_string W 22 9 5 _ _ _ Try.underlying22 Try.underlying5 Try.underlying9]
      exact run_bytesToString W ad 0 c [] (run_loadCells_list W ad [] (fun j v hj => by simp at hj))
  · obtain ⟨ad, rfl, _⟩ := C_cell hC 0 h0
    rw [run_convert_bytes_string W 22 9 5 _ _ _ Try.underlying22 Try.underlying5 Try.underlying9]
    refine run_bytesToString W ad xs.length c xs ?_
    have := run_loadCells_list (P := Try.prog) W ad (xs.map (Value.int .u8)) (fun j v hj => by
      have hjl : j < xs.length := by
        rcases Nat.lt_or_ge j xs.length with h | h
        · exact h
        · simp [List.getElem?_eq_none (show (xs.map (Value.int .u8)).length ≤ j by simpa using h)] at hj
      obtain ⟨ad', e, hcell⟩ := C_cell hC j hjl
      cases e
      rw [hcell]
      simp [List.getElem?_eq_getElem hjl] at hj
      subst hj
      simp [List.getD, List.getElem?_eq_getElem hjl])
    simpa using this
theorem and_one_u8 (y : Int) (h0 : 0 ≤ y) (h1 : y < 256) : bits .and .u8 y 1 = y % 2 := by
  have h : ∀ i : Fin 256, bits .and .u8 (i.val : Int) 1 = (i.val : Int) % 2 := by decide +kernel
  have := h ⟨y.toNat, by omega⟩
  simpa [Int.toNat_of_nonneg h0] using this
theorem and_byte (x : Int) (hx : 0 ≤ x) (i : Nat) (t : Int) (ht : nbit x i = t) : bits .and .u8 (nby x (i / 8) / 2 ^ (i % 8)) 1 = t := by
  have h1 := nby_range x (i / 8)
  obtain ⟨b, hb⟩ := Int.eq_ofNat_of_zero_le h1.1
  have e : (nby x (i / 8) / 2 ^ (i % 8)) = nby x (i / 8) / ((2 ^ (i % 8) : Nat) : Int) := by rw [Int.natCast_pow]; rfl
  rw [e, and_one_u8, ← nbit_byte x hx i, ht]
  · exact Int.ediv_nonneg h1.1 (Int.natCast_nonneg _)
  · rw [hb, ← Int.natCast_ediv]
    have := Nat.div_le_self b (2 ^ (i % 8))
    omega
theorem lenN_le {x : Int} {n : Nat} (h0 : 0 ≤ x) (h : x < ((2 ^ n : Nat) : Int)) : ∃ r : Nat, LenN x.toNat r ∧ r ≤ n := by
  obtain ⟨X, rfl⟩ := Int.eq_ofNat_of_zero_le h0
  rw [Int.toNat_natCast]
  have h3 : X < 2 ^ n := Int.ofNat_lt.1 h
  by_cases h0 : X = 0
  · exact ⟨0, by rw [h0]; exact ⟨by simp, .inl rfl⟩, by omega⟩
  · refine ⟨X.log2 + 1, ⟨Nat.lt_log2_self, .inr (Nat.log2_self_le h0)⟩, ?_⟩
    have := Nat.log2_lt h0 |>.2 h3
    omega

end Go.Proofs.Ytokadjfakncdfaa
end

section
set_option linter.unusedVariables false
set_option linter.unusedSimpArgs false
namespace Go.Proofs.Ytokadjfakncdfaa
open Go.RowKit Go.Proofs.YtokadjfakncdfaaW.PrintWords Go.Proofs.YtokadjfakncdfaaW.PrintLast Go.Proofs.YtokadjfakncdfaaW.PrintMore
open PR
attribute [local go_sem ↓] Go.wp_at_zero Go.wp_at_succ

theorem tk0 {P : Program} {Q : Exit → Act → World → Prop} {md : Region.Mode} {S : World → Prop} {o0 : Oper} {l : List Oper} {v : Value} {fuel : Nat} {listed : Array Bool} {a : Act} {w : World}
    (hs : Region.noSelect (o0 :: l).toArray = true) (hf : Region.free md (o0 :: l).toArray listed 0 = true) (hr : (Region.ready md (o0 :: l).toArray listed).contains 0 = true)
    (hQ : ∀ c a w, Q (.panic c) (a.put o0.dst v) w → Q (.panic c) a w) (hy : YieldsIf P (o0 :: l).toArray S o0 v a) (hS : S w)
    (h : wpAnyH P md (o0 :: l).toArray Q S fuel (listed.setIfInBounds 0 true) (a.put o0.dst v) w) : wpAnyH P md (o0 :: l).toArray Q S (fuel + 1) listed a w := wpAnyH_take rfl hs hf hr hQ hy hS h
theorem br0 {P : Program} {Q : Exit → Act → World → Prop} {md : Region.Mode} {S : World → Prop} {o0 : Oper} {l : List Oper} {fuel : Nat} {listed : Array Bool} {a : Act} {w : World}
    (hr : Region.ready md (o0 :: l).toArray listed = [0])
    (h : ∀ K' : Act → World → Prop, Shut (∀ a w, S w → (S w → wpAnyH P md (o0 :: l).toArray Q S fuel (listed.setIfInBounds 0 true) a w) → K' a w) → if Region.wanted o0 (yielded (o0 :: l).toArray a.tmps) = true then Oper.wp P o0 a w K' Q else K' (a.put o0.dst undef) w) :
    wpAnyH P md (o0 :: l).toArray Q S (fuel + 1) listed a w := wpAnyH_ready hr (by simp) (AllReadyH.cons rfl h AllReadyH.nil)
theorem tk1 {P : Program} {Q : Exit → Act → World → Prop} {md : Region.Mode} {S : World → Prop} {o0 o1 : Oper} {l : List Oper} {v : Value} {fuel : Nat} {listed : Array Bool} {a : Act} {w : World}
    (hs : Region.noSelect (o0 :: o1 :: l).toArray = true) (hf : Region.free md (o0 :: o1 :: l).toArray listed 1 = true) (hr : (Region.ready md (o0 :: o1 :: l).toArray listed).contains 1 = true)
    (hQ : ∀ c a w, Q (.panic c) (a.put o1.dst v) w → Q (.panic c) a w) (hy : YieldsIf P (o0 :: o1 :: l).toArray S o1 v a) (hS : S w)
    (h : wpAnyH P md (o0 :: o1 :: l).toArray Q S fuel (listed.setIfInBounds 1 true) (a.put o1.dst v) w) : wpAnyH P md (o0 :: o1 :: l).toArray Q S (fuel + 1) listed a w := wpAnyH_take rfl hs hf hr hQ hy hS h
theorem br1 {P : Program} {Q : Exit → Act → World → Prop} {md : Region.Mode} {S : World → Prop} {o0 o1 : Oper} {l : List Oper} {fuel : Nat} {listed : Array Bool} {a : Act} {w : World}
    (hr : Region.ready md (o0 :: o1 :: l).toArray listed = [1])
    (h : ∀ K' : Act → World → Prop, Shut (∀ a w, S w → (S w → wpAnyH P md (o0 :: o1 :: l).toArray Q S fuel (listed.setIfInBounds 1 true) a w) → K' a w) → if Region.wanted o1 (yielded (o0 :: o1 :: l).toArray a.tmps) = true then Oper.wp P o1 a w K' Q else K' (a.put o1.dst undef) w) :
    wpAnyH P md (o0 :: o1 :: l).toArray Q S (fuel + 1) listed a w := wpAnyH_ready hr (by simp) (AllReadyH.cons rfl h AllReadyH.nil)
theorem tk2 {P : Program} {Q : Exit → Act → World → Prop} {md : Region.Mode} {S : World → Prop} {o0 o1 o2 : Oper} {l : List Oper} {v : Value} {fuel : Nat} {listed : Array Bool} {a : Act} {w : World}
    (hs : Region.noSelect (o0 :: o1 :: o2 :: l).toArray = true) (hf : Region.free md (o0 :: o1 :: o2 :: l).toArray listed 2 = true) (hr : (Region.ready md (o0 :: o1 :: o2 :: l).toArray listed).contains 2 = true)
    (hQ : ∀ c a w, Q (.panic c) (a.put o2.dst v) w → Q (.panic c) a w) (hy : YieldsIf P (o0 :: o1 :: o2 :: l).toArray S o2 v a) (hS : S w)
    (h : wpAnyH P md (o0 :: o1 :: o2 :: l).toArray Q S fuel (listed.setIfInBounds 2 true) (a.put o2.dst v) w) : wpAnyH P md (o0 :: o1 :: o2 :: l).toArray Q S (fuel + 1) listed a w := wpAnyH_take rfl hs hf hr hQ hy hS h
theorem br2 {P : Program} {Q : Exit → Act → World → Prop} {md : Region.Mode} {S : World → Prop} {o0 o1 o2 : Oper} {l : List Oper} {fuel : Nat} {listed : Array Bool} {a : Act} {w : World}
    (hr : Region.ready md (o0 :: o1 :: o2 :: l).toArray listed = [2])
    (h : ∀ K' : Act → World → Prop, Shut (∀ a w, S w → (S w → wpAnyH P md (o0 :: o1 :: o2 :: l).toArray Q S fuel (listed.setIfInBounds 2 true) a w) → K' a w) → if Region.wanted o2 (yielded (o0 :: o1 :: o2 :: l).toArray a.tmps) = true then Oper.wp P o2 a w K' Q else K' (a.put o2.dst undef) w) :
    wpAnyH P md (o0 :: o1 :: o2 :: l).toArray Q S (fuel + 1) listed a w := wpAnyH_ready hr (by simp) (AllReadyH.cons rfl h AllReadyH.nil)
theorem tk3 {P : Program} {Q : Exit → Act → World → Prop} {md : Region.Mode} {S : World → Prop} {o0 o1 o2 o3 : Oper} {l : List Oper} {v : Value} {fuel : Nat} {listed : Array Bool} {a : Act} {w : World}
    (hs : Region.noSelect (o0 :: o1 :: o2 :: o3 :: l).toArray = true) (hf : Region.free md (o0 :: o1 :: o2 :: o3 :: l).toArray listed 3 = true) (hr : (Region.ready md (o0 :: o1 :: o2 :: o3 :: l).toArray listed).contains 3 = true)
    (hQ : ∀ c a w, Q (.panic c) (a.put o3.dst v) w → Q (.panic c) a w) (hy : YieldsIf P (o0 :: o1 :: o2 :: o3 :: l).toArray S o3 v a) (hS : S w)
    (h : wpAnyH P md (o0 :: o1 :: o2 :: o3 :: l).toArray Q S fuel (listed.setIfInBounds 3 true) (a.put o3.dst v) w) : wpAnyH P md (o0 :: o1 :: o2 :: o3 :: l).toArray Q S (fuel + 1) listed a w := wpAnyH_take rfl hs hf hr hQ hy hS h
theorem br3 {P : Program} {Q : Exit → Act → World → Prop} {md : Region.Mode} {S : World → Prop} {o0 o1 o2 o3 : Oper} {l : List Oper} {fuel : Nat} {listed : Array Bool} {a : Act} {w : World}
    (hr : Region.ready md (o0 :: o1 :: o2 :: o3 :: l).toArray listed = [3])
    (h : ∀ K' : Act → World → Prop, Shut (∀ a w, S w → (S w → wpAnyH P md (o0 :: o1 :: o2 :: o3 :: l).toArray Q S fuel (listed.setIfInBounds 3 true) a w) → K' a w) → if Region.wanted o3 (yielded (o0 :: o1 :: o2 :: o3 :: l).toArray a.tmps) = true then Oper.wp P o3 a w K' Q else K' (a.put o3.dst undef) w) :
    wpAnyH P md (o0 :: o1 :: o2 :: o3 :: l).toArray Q S (fuel + 1) listed a w := wpAnyH_ready hr (by simp) (AllReadyH.cons rfl h AllReadyH.nil)
theorem tk4 {P : Program} {Q : Exit → Act → World → Prop} {md : Region.Mode} {S : World → Prop} {o0 o1 o2 o3 o4 : Oper} {l : List Oper} {v : Value} {fuel : Nat} {listed : Array Bool} {a : Act} {w : World}
    (hs : Region.noSelect (o0 :: o1 :: o2 :: o3 :: o4 :: l).toArray = true) (hf : Region.free md (o0 :: o1 :: o2 :: o3 :: o4 :: l).toArray listed 4 = true) (hr : (Region.ready md (o0 :: o1 :: o2 :: o3 :: o4 :: l).toArray listed).contains 4 = true)
    (hQ : ∀ c a w, Q (.panic c) (a.put o4.dst v) w → Q (.panic c) a w) (hy : YieldsIf P (o0 :: o1 :: o2 :: o3 :: o4 :: l).toArray S o4 v a) (hS : S w)
    (h : wpAnyH P md (o0 :: o1 :: o2 :: o3 :: o4 :: l).toArray Q S fuel (listed.setIfInBounds 4 true) (a.put o4.dst v) w) : wpAnyH P md (o0 :: o1 :: o2 :: o3 :: o4 :: l).toArray Q S (fuel + 1) listed a w := wpAnyH_take rfl hs hf hr hQ hy hS h
theorem br4 {P : Program} {Q : Exit → Act → World → Prop} {md : Region.Mode} {S : World → Prop} {o0 o1 o2 o3 o4 : Oper} {l : List Oper} {fuel : Nat} {listed : Array Bool} {a : Act} {w : World}
    (hr : Region.ready md (o0 :: o1 :: o2 :: o3 :: o4 :: l).toArray listed = [4])
    (h : ∀ K' : Act → World → Prop, Shut (∀ a w, S w → (S w → wpAnyH P md (o0 :: o1 :: o2 :: o3 :: o4 :: l).toArray Q S fuel (listed.setIfInBounds 4 true) a w) → K' a w) → if Region.wanted o4 (yielded (o0 :: o1 :: o2 :: o3 :: o4 :: l).toArray a.tmps) = true then Oper.wp P o4 a w K' Q else K' (a.put o4.dst undef) w) :
    wpAnyH P md (o0 :: o1 :: o2 :: o3 :: o4 :: l).toArray Q S (fuel + 1) listed a w := wpAnyH_ready hr (by simp) (AllReadyH.cons rfl h AllReadyH.nil)
theorem tk5 {P : Program} {Q : Exit → Act → World → Prop} {md : Region.Mode} {S : World → Prop} {o0 o1 o2 o3 o4 o5 : Oper} {l : List Oper} {v : Value} {fuel : Nat} {listed : Array Bool} {a : Act} {w : World}
    (hs : Region.noSelect (o0 :: o1 :: o2 :: o3 :: o4 :: o5 :: l).toArray = true) (hf : Region.free md (o0 :: o1 :: o2 :: o3 :: o4 :: o5 :: l).toArray listed 5 = true) (hr : (Region.ready md (o0 :: o1 :: o2 :: o3 :: o4 :: o5 :: l).toArray listed).contains 5 = true)
    (hQ : ∀ c a w, Q (.panic c) (a.put o5.dst v) w → Q (.panic c) a w) (hy : YieldsIf P (o0 :: o1 :: o2 :: o3 :: o4 :: o5 :: l).toArray S o5 v a) (hS : S w)
    (h : wpAnyH P md (o0 :: o1 :: o2 :: o3 :: o4 :: o5 :: l).toArray Q S fuel (listed.setIfInBounds 5 true) (a.put o5.dst v) w) : wpAnyH P md (o0 :: o1 :: o2 :: o3 :: o4 :: o5 :: l).toArray Q S (fuel + 1) listed a w := wpAnyH_take rfl hs hf hr hQ hy hS h
theorem br5 {P : Program} {Q : Exit → Act → World → Prop} {md : Region.Mode} {S : World → Prop} {o0 o1 o2 o3 o4 o5 : Oper} {l : List Oper} {fuel : Nat} {listed : Array Bool} {a : Act} {w : World}
    (hr : Region.ready md (o0 :: o1 :: o2 :: o3 :: o4 :: o5 :: l).toArray listed = [5])
    (h : ∀ K' : Act → World → Prop, Shut (∀ a w, S w → (S w → wpAnyH P md (o0 :: o1 :: o2 :: o3 :: o4 :: o5 :: l).toArray Q S fuel (listed.setIfInBounds 5 true) a w) → K' a w) → if Region.wanted o5 (yielded (o0 :: o1 :: o2 :: o3 :: o4 :: o5 :: l).toArray a.tmps) = true then Oper.wp P o5 a w K' Q else K' (a.put o5.dst undef) w) :
    wpAnyH P md (o0 :: o1 :: o2 :: o3 :: o4 :: o5 :: l).toArray Q S (fuel + 1) listed a w := wpAnyH_ready hr (by simp) (AllReadyH.cons rfl h AllReadyH.nil)
theorem tk6 {P : Program} {Q : Exit → Act → World → Prop} {md : Region.Mode} {S : World → Prop} {o0 o1 o2 o3 o4 o5 o6 : Oper} {l : List Oper} {v : Value} {fuel : Nat} {listed : Array Bool} {a : Act} {w : World}
    (hs : Region.noSelect (o0 :: o1 :: o2 :: o3 :: o4 :: o5 :: o6 :: l).toArray = true) (hf : Region.free md (o0 :: o1 :: o2 :: o3 :: o4 :: o5 :: o6 :: l).toArray listed 6 = true) (hr : (Region.ready md (o0 :: o1 :: o2 :: o3 :: o4 :: o5 :: o6 :: l).toArray listed).contains 6 = true)
    (hQ : ∀ c a w, Q (.panic c) (a.put o6.dst v) w → Q (.panic c) a w) (hy : YieldsIf P (o0 :: o1 :: o2 :: o3 :: o4 :: o5 :: o6 :: l).toArray S o6 v a) (hS : S w)
    (h : wpAnyH P md (o0 :: o1 :: o2 :: o3 :: o4 :: o5 :: o6 :: l).toArray Q S fuel (listed.setIfInBounds 6 true) (a.put o6.dst v) w) : wpAnyH P md (o0 :: o1 :: o2 :: o3 :: o4 :: o5 :: o6 :: l).toArray Q S (fuel + 1) listed a w := wpAnyH_take rfl hs hf hr hQ hy hS h
theorem br6 {P : Program} {Q : Exit → Act → World → Prop} {md : Region.Mode} {S : World → Prop} {o0 o1 o2 o3 o4 o5 o6 : Oper} {l : List Oper} {fuel : Nat} {listed : Array Bool} {a : Act} {w : World}
    (hr : Region.ready md (o0 :: o1 :: o2 :: o3 :: o4 :: o5 :: o6 :: l).toArray listed = [6])
    (h : ∀ K' : Act → World → Prop, Shut (∀ a w, S w → (S w → wpAnyH P md (o0 :: o1 :: o2 :: o3 :: o4 :: o5 :: o6 :: l).toArray Q S fuel (listed.setIfInBounds 6 true) a w) → K' a w) → if Region.wanted o6 (yielded (o0 :: o1 :: o2 :: o3 :: o4 :: o5 :: o6 :: l).toArray a.tmps) = true then Oper.wp P o6 a w K' Q else K' (a.put o6.dst undef) w) :
    wpAnyH P md (o0 :: o1 :: o2 :: o3 :: o4 :: o5 :: o6 :: l).toArray Q S (fuel + 1) listed a w := wpAnyH_ready hr (by simp) (AllReadyH.cons rfl h AllReadyH.nil)
theorem tk7 {P : Program} {Q : Exit → Act → World → Prop} {md : Region.Mode} {S : World → Prop} {o0 o1 o2 o3 o4 o5 o6 o7 : Oper} {l : List Oper} {v : Value} {fuel : Nat} {listed : Array Bool} {a : Act} {w : World}
    (hs : Region.noSelect (o0 :: o1 :: o2 :: o3 :: o4 :: o5 :: o6 :: o7 :: l).toArray = true) (hf : Region.free md (o0 :: o1 :: o2 :: o3 :: o4 :: o5 :: o6 :: o7 :: l).toArray listed 7 = true) (hr : (Region.ready md (o0 :: o1 :: o2 :: o3 :: o4 :: o5 :: o6 :: o7 :: l).toArray listed).contains 7 = true)
    (hQ : ∀ c a w, Q (.panic c) (a.put o7.dst v) w → Q (.panic c) a w) (hy : YieldsIf P (o0 :: o1 :: o2 :: o3 :: o4 :: o5 :: o6 :: o7 :: l).toArray S o7 v a) (hS : S w)
    (h : wpAnyH P md (o0 :: o1 :: o2 :: o3 :: o4 :: o5 :: o6 :: o7 :: l).toArray Q S fuel (listed.setIfInBounds 7 true) (a.put o7.dst v) w) : wpAnyH P md (o0 :: o1 :: o2 :: o3 :: o4 :: o5 :: o6 :: o7 :: l).toArray Q S (fuel + 1) listed a w := wpAnyH_take rfl hs hf hr hQ hy hS h
theorem br7 {P : Program} {Q : Exit → Act → World → Prop} {md : Region.Mode} {S : World → Prop} {o0 o1 o2 o3 o4 o5 o6 o7 : Oper} {l : List Oper} {fuel : Nat} {listed : Array Bool} {a : Act} {w : World}
    (hr : Region.ready md (o0 :: o1 :: o2 :: o3 :: o4 :: o5 :: o6 :: o7 :: l).toArray listed = [7])
    (h : ∀ K' : Act → World → Prop, Shut (∀ a w, S w → (S w → wpAnyH P md (o0 :: o1 :: o2 :: o3 :: o4 :: o5 :: o6 :: o7 :: l).toArray Q S fuel (listed.setIfInBounds 7 true) a w) → K' a w) → if Region.wanted o7 (yielded (o0 :: o1 :: o2 :: o3 :: o4 :: o5 :: o6 :: o7 :: l).toArray a.tmps) = true then Oper.wp P o7 a w K' Q else K' (a.put o7.dst undef) w) :
    wpAnyH P md (o0 :: o1 :: o2 :: o3 :: o4 :: o5 :: o6 :: o7 :: l).toArray Q S (fuel + 1) listed a w := wpAnyH_ready hr (by simp) (AllReadyH.cons rfl h AllReadyH.nil)
theorem tk8 {P : Program} {Q : Exit → Act → World → Prop} {md : Region.Mode} {S : World → Prop} {o0 o1 o2 o3 o4 o5 o6 o7 o8 : Oper} {l : List Oper} {v : Value} {fuel : Nat} {listed : Array Bool} {a : Act} {w : World}
    (hs : Region.noSelect (o0 :: o1 :: o2 :: o3 :: o4 :: o5 :: o6 :: o7 :: o8 :: l).toArray = true) (hf : Region.free md (o0 :: o1 :: o2 :: o3 :: o4 :: o5 :: o6 :: o7 :: o8 :: l).toArray listed 8 = true) (hr : (Region.ready md (o0 :: o1 :: o2 :: o3 :: o4 :: o5 :: o6 :: o7 :: o8 :: l).toArray listed).contains 8 = true)
    (hQ : ∀ c a w, Q (.panic c) (a.put o8.dst v) w → Q (.panic c) a w) (hy : YieldsIf P (o0 :: o1 :: o2 :: o3 :: o4 :: o5 :: o6 :: o7 :: o8 :: l).toArray S o8 v a) (hS : S w)
    (h : wpAnyH P md (o0 :: o1 :: o2 :: o3 :: o4 :: o5 :: o6 :: o7 :: o8 :: l).toArray Q S fuel (listed.setIfInBounds 8 true) (a.put o8.dst v) w) : wpAnyH P md (o0 :: o1 :: o2 :: o3 :: o4 :: o5 :: o6 :: o7 :: o8 :: l).toArray Q S (fuel + 1) listed a w := wpAnyH_take rfl hs hf hr hQ hy hS h
theorem br8 {P : Program} {Q : Exit → Act → World → Prop} {md : Region.Mode} {S : World → Prop} {o0 o1 o2 o3 o4 o5 o6 o7 o8 : Oper} {l : List Oper} {fuel : Nat} {listed : Array Bool} {a : Act} {w : World}
    (hr : Region.ready md (o0 :: o1 :: o2 :: o3 :: o4 :: o5 :: o6 :: o7 :: o8 :: l).toArray listed = [8])
    (h : ∀ K' : Act → World → Prop, Shut (∀ a w, S w → (S w → wpAnyH P md (o0 :: o1 :: o2 :: o3 :: o4 :: o5 :: o6 :: o7 :: o8 :: l).toArray Q S fuel (listed.setIfInBounds 8 true) a w) → K' a w) → if Region.wanted o8 (yielded (o0 :: o1 :: o2 :: o3 :: o4 :: o5 :: o6 :: o7 :: o8 :: l).toArray a.tmps) = true then Oper.wp P o8 a w K' Q else K' (a.put o8.dst undef) w) :
    wpAnyH P md (o0 :: o1 :: o2 :: o3 :: o4 :: o5 :: o6 :: o7 :: o8 :: l).toArray Q S (fuel + 1) listed a w := wpAnyH_ready hr (by simp) (AllReadyH.cons rfl h AllReadyH.nil)
theorem tk9 {P : Program} {Q : Exit → Act → World → Prop} {md : Region.Mode} {S : World → Prop} {o0 o1 o2 o3 o4 o5 o6 o7 o8 o9 : Oper} {l : List Oper} {v : Value} {fuel : Nat} {listed : Array Bool} {a : Act} {w : World}
    (hs : Region.noSelect (o0 :: o1 :: o2 :: o3 :: o4 :: o5 :: o6 :: o7 :: o8 :: o9 :: l).toArray = true) (hf : Region.free md (o0 :: o1 :: o2 :: o3 :: o4 :: o5 :: o6 :: o7 :: o8 :: o9 :: l).toArray listed 9 = true) (hr : (Region.ready md (o0 :: o1 :: o2 :: o3 :: o4 :: o5 :: o6 :: o7 :: o8 :: o9 :: l).toArray listed).contains 9 = true)
    (hQ : ∀ c a w, Q (.panic c) (a.put o9.dst v) w → Q (.panic c) a w) (hy : YieldsIf P (o0 :: o1 :: o2 :: o3 :: o4 :: o5 :: o6 :: o7 :: o8 :: o9 :: l).toArray S o9 v a) (hS : S w)
    (h : wpAnyH P md (o0 :: o1 :: o2 :: o3 :: o4 :: o5 :: o6 :: o7 :: o8 :: o9 :: l).toArray Q S fuel (listed.setIfInBounds 9 true) (a.put o9.dst v) w) : wpAnyH P md (o0 :: o1 :: o2 :: o3 :: o4 :: o5 :: o6 :: o7 :: o8 :: o9 :: l).toArray Q S (fuel + 1) listed a w := wpAnyH_take rfl hs hf hr hQ hy hS h
theorem br9 {P : Program} {Q : Exit → Act → World → Prop} {md : Region.Mode} {S : World → Prop} {o0 o1 o2 o3 o4 o5 o6 o7 o8 o9 : Oper} {l : List Oper} {fuel : Nat} {listed : Array Bool} {a : Act} {w : World}
    (hr : Region.ready md (o0 :: o1 :: o2 :: o3 :: o4 :: o5 :: o6 :: o7 :: o8 :: o9 :: l).toArray listed = [9])
    (h : ∀ K' : Act → World → Prop, Shut (∀ a w, S w → (S w → wpAnyH P md (o0 :: o1 :: o2 :: o3 :: o4 :: o5 :: o6 :: o7 :: o8 :: o9 :: l).toArray Q S fuel (listed.setIfInBounds 9 true) a w) → K' a w) → if Region.wanted o9 (yielded (o0 :: o1 :: o2 :: o3 :: o4 :: o5 :: o6 :: o7 :: o8 :: o9 :: l).toArray a.tmps) = true then Oper.wp P o9 a w K' Q else K' (a.put o9.dst undef) w) :
    wpAnyH P md (o0 :: o1 :: o2 :: o3 :: o4 :: o5 :: o6 :: o7 :: o8 :: o9 :: l).toArray Q S (fuel + 1) listed a w := wpAnyH_ready hr (by simp) (AllReadyH.cons rfl h AllReadyH.nil)
theorem tk10 {P : Program} {Q : Exit → Act → World → Prop} {md : Region.Mode} {S : World → Prop} {o0 o1 o2 o3 o4 o5 o6 o7 o8 o9 o10 : Oper} {l : List Oper} {v : Value} {fuel : Nat} {listed : Array Bool} {a : Act} {w : World}
    (hs : Region.noSelect (o0 :: o1 :: o2 :: o3 :: o4 :: o5 :: o6 :: o7 :: o8 :: o9 :: o10 :: l).toArray = true) (hf : Region.free md (o0 :: o1 :: o2 :: o3 :: o4 :: o5 :: o6 :: o7 :: o8 :: o9 :: o10 :: l).toArray listed 10 = true) (hr : (Region.ready md (o0 :: o1 :: o2 :: o3 :: o4 :: o5 :: o6 :: o7 :: o8 :: o9 :: o10 :: l).toArray listed).contains 10 = true)
    (hQ : ∀ c a w, Q (.panic c) (a.put o10.dst v) w → Q (.panic c) a w) (hy : YieldsIf P (o0 :: o1 :: o2 :: o3 :: o4 :: o5 :: o6 :: o7 :: o8 :: o9 :: o10 :: l).toArray S o10 v a) (hS : S w)
    (h : wpAnyH P md (o0 :: o1 :: o2 :: o3 :: o4 :: o5 :: o6 :: o7 :: o8 :: o9 :: o10 :: l).toArray Q S fuel (listed.setIfInBounds 10 true) (a.put o10.dst v) w) : wpAnyH P md (o0 :: o1 :: o2 :: o3 :: o4 :: o5 :: o6 :: o7 :: o8 :: o9 :: o10 :: l).toArray Q S (fuel + 1) listed a w := wpAnyH_take rfl hs hf hr hQ hy hS h
theorem br10 {P : Program} {Q : Exit → Act → World → Prop} {md : Region.Mode} {S : World → Prop} {o0 o1 o2 o3 o4 o5 o6 o7 o8 o9 o10 : Oper} {l : List Oper} {fuel : Nat} {listed : Array Bool} {a : Act} {w : World}
    (hr : Region.ready md (o0 :: o1 :: o2 :: o3 :: o4 :: o5 :: o6 :: o7 :: o8 :: o9 :: o10 :: l).toArray listed = [10])
    (h : ∀ K' : Act → World → Prop, Shut (∀ a w, S w → (S w → wpAnyH P md (o0 :: o1 :: o2 :: o3 :: o4 :: o5 :: o6 :: o7 :: o8 :: o9 :: o10 :: l).toArray Q S fuel (listed.setIfInBounds 10 true) a w) → K' a w) → if Region.wanted o10 (yielded (o0 :: o1 :: o2 :: o3 :: o4 :: o5 :: o6 :: o7 :: o8 :: o9 :: o10 :: l).toArray a.tmps) = true then Oper.wp P o10 a w K' Q else K' (a.put o10.dst undef) w) :
    wpAnyH P md (o0 :: o1 :: o2 :: o3 :: o4 :: o5 :: o6 :: o7 :: o8 :: o9 :: o10 :: l).toArray Q S (fuel + 1) listed a w := wpAnyH_ready hr (by simp) (AllReadyH.cons rfl h AllReadyH.nil)
theorem tk11 {P : Program} {Q : Exit → Act → World → Prop} {md : Region.Mode} {S : World → Prop} {o0 o1 o2 o3 o4 o5 o6 o7 o8 o9 o10 o11 : Oper} {l : List Oper} {v : Value} {fuel : Nat} {listed : Array Bool} {a : Act} {w : World}
    (hs : Region.noSelect (o0 :: o1 :: o2 :: o3 :: o4 :: o5 :: o6 :: o7 :: o8 :: o9 :: o10 :: o11 :: l).toArray = true) (hf : Region.free md (o0 :: o1 :: o2 :: o3 :: o4 :: o5 :: o6 :: o7 :: o8 :: o9 :: o10 :: o11 :: l).toArray listed 11 = true) (hr : (Region.ready md (o0 :: o1 :: o2 :: o3 :: o4 :: o5 :: o6 :: o7 :: o8 :: o9 :: o10 :: o11 :: l).toArray listed).contains 11 = true)
    (hQ : ∀ c a w, Q (.panic c) (a.put o11.dst v) w → Q (.panic c) a w) (hy : YieldsIf P (o0 :: o1 :: o2 :: o3 :: o4 :: o5 :: o6 :: o7 :: o8 :: o9 :: o10 :: o11 :: l).toArray S o11 v a) (hS : S w)
    (h : wpAnyH P md (o0 :: o1 :: o2 :: o3 :: o4 :: o5 :: o6 :: o7 :: o8 :: o9 :: o10 :: o11 :: l).toArray Q S fuel (listed.setIfInBounds 11 true) (a.put o11.dst v) w) : wpAnyH P md (o0 :: o1 :: o2 :: o3 :: o4 :: o5 :: o6 :: o7 :: o8 :: o9 :: o10 :: o11 :: l).toArray Q S (fuel + 1) listed a w := wpAnyH_take rfl hs hf hr hQ hy hS h
theorem br11 {P : Program} {Q : Exit → Act → World → Prop} {md : Region.Mode} {S : World → Prop} {o0 o1 o2 o3 o4 o5 o6 o7 o8 o9 o10 o11 : Oper} {l : List Oper} {fuel : Nat} {listed : Array Bool} {a : Act} {w : World}
    (hr : Region.ready md (o0 :: o1 :: o2 :: o3 :: o4 :: o5 :: o6 :: o7 :: o8 :: o9 :: o10 :: o11 :: l).toArray listed = [11])
    (h : ∀ K' : Act → World → Prop, Shut (∀ a w, S w → (S w → wpAnyH P md (o0 :: o1 :: o2 :: o3 :: o4 :: o5 :: o6 :: o7 :: o8 :: o9 :: o10 :: o11 :: l).toArray Q S fuel (listed.setIfInBounds 11 true) a w) → K' a w) → if Region.wanted o11 (yielded (o0 :: o1 :: o2 :: o3 :: o4 :: o5 :: o6 :: o7 :: o8 :: o9 :: o10 :: o11 :: l).toArray a.tmps) = true then Oper.wp P o11 a w K' Q else K' (a.put o11.dst undef) w) :
    wpAnyH P md (o0 :: o1 :: o2 :: o3 :: o4 :: o5 :: o6 :: o7 :: o8 :: o9 :: o10 :: o11 :: l).toArray Q S (fuel + 1) listed a w := wpAnyH_ready hr (by simp) (AllReadyH.cons rfl h AllReadyH.nil)
theorem tk12 {P : Program} {Q : Exit → Act → World → Prop} {md : Region.Mode} {S : World → Prop} {o0 o1 o2 o3 o4 o5 o6 o7 o8 o9 o10 o11 o12 : Oper} {l : List Oper} {v : Value} {fuel : Nat} {listed : Array Bool} {a : Act} {w : World}
    (hs : Region.noSelect (o0 :: o1 :: o2 :: o3 :: o4 :: o5 :: o6 :: o7 :: o8 :: o9 :: o10 :: o11 :: o12 :: l).toArray = true) (hf : Region.free md (o0 :: o1 :: o2 :: o3 :: o4 :: o5 :: o6 :: o7 :: o8 :: o9 :: o10 :: o11 :: o12 :: l).toArray listed 12 = true) (hr : (Region.ready md (o0 :: o1 :: o2 :: o3 :: o4 :: o5 :: o6 :: o7 :: o8 :: o9 :: o10 :: o11 :: o12 :: l).toArray listed).contains 12 = true)
    (hQ : ∀ c a w, Q (.panic c) (a.put o12.dst v) w → Q (.panic c) a w) (hy : YieldsIf P (o0 :: o1 :: o2 :: o3 :: o4 :: o5 :: o6 :: o7 :: o8 :: o9 :: o10 :: o11 :: o12 :: l).toArray S o12 v a) (hS : S w)
    (h : wpAnyH P md (o0 :: o1 :: o2 :: o3 :: o4 :: o5 :: o6 :: o7 :: o8 :: o9 :: o10 :: o11 :: o12 :: l).toArray Q S fuel (listed.setIfInBounds 12 true) (a.put o12.dst v) w) : wpAnyH P md (o0 :: o1 :: o2 :: o3 :: o4 :: o5 :: o6 :: o7 :: o8 :: o9 :: o10 :: o11 :: o12 :: l).toArray Q S (fuel + 1) listed a w := wpAnyH_take rfl hs hf hr hQ hy hS h
theorem br12 {P : Program} {Q : Exit → Act → World → Prop} {md : Region.Mode} {S : World → Prop} {o0 o1 o2 o3 o4 o5 o6 o7 o8 o9 o10 o11 o12 : Oper} {l : List Oper} {fuel : Nat} {listed : Array Bool} {a : Act} {w : World}
    (hr : Region.ready md (o0 :: o1 :: o2 :: o3 :: o4 :: o5 :: o6 :: o7 :: o8 :: o9 :: o10 :: o11 :: o12 :: l).toArray listed = [12])
    (h : ∀ K' : Act → World → Prop, Shut (∀ a w, S w → (S w → wpAnyH P md (o0 :: o1 :: o2 :: o3 :: o4 :: o5 :: o6 :: o7 :: o8 :: o9 :: o10 :: o11 :: o12 :: l).toArray Q S fuel (listed.setIfInBounds 12 true) a w) → K' a w) → if Region.wanted o12 (yielded (o0 :: o1 :: o2 :: o3 :: o4 :: o5 :: o6 :: o7 :: o8 :: o9 :: o10 :: o11 :: o12 :: l).toArray a.tmps) = true then Oper.wp P o12 a w K' Q else K' (a.put o12.dst undef) w) :
    wpAnyH P md (o0 :: o1 :: o2 :: o3 :: o4 :: o5 :: o6 :: o7 :: o8 :: o9 :: o10 :: o11 :: o12 :: l).toArray Q S (fuel + 1) listed a w := wpAnyH_ready hr (by simp) (AllReadyH.cons rfl h AllReadyH.nil)
theorem tk13 {P : Program} {Q : Exit → Act → World → Prop} {md : Region.Mode} {S : World → Prop} {o0 o1 o2 o3 o4 o5 o6 o7 o8 o9 o10 o11 o12 o13 : Oper} {l : List Oper} {v : Value} {fuel : Nat} {listed : Array Bool} {a : Act} {w : World}
    (hs : Region.noSelect (o0 :: o1 :: o2 :: o3 :: o4 :: o5 :: o6 :: o7 :: o8 :: o9 :: o10 :: o11 :: o12 :: o13 :: l).toArray = true) (hf : Region.free md (o0 :: o1 :: o2 :: o3 :: o4 :: o5 :: o6 :: o7 :: o8 :: o9 :: o10 :: o11 :: o12 :: o13 :: l).toArray listed 13 = true) (hr : (Region.ready md (o0 :: o1 :: o2 :: o3 :: o4 :: o5 :: o6 :: o7 :: o8 :: o9 :: o10 :: o11 :: o12 :: o13 :: l).toArray listed).contains 13 = true)
    (hQ : ∀ c a w, Q (.panic c) (a.put o13.dst v) w → Q (.panic c) a w) (hy : YieldsIf P (o0 :: o1 :: o2 :: o3 :: o4 :: o5 :: o6 :: o7 :: o8 :: o9 :: o10 :: o11 :: o12 :: o13 :: l).toArray S o13 v a) (hS : S w)
    (h : wpAnyH P md (o0 :: o1 :: o2 :: o3 :: o4 :: o5 :: o6 :: o7 :: o8 :: o9 :: o10 :: o11 :: o12 :: o13 :: l).toArray Q S fuel (listed.setIfInBounds 13 true) (a.put o13.dst v) w) : wpAnyH P md (o0 :: o1 :: o2 :: o3 :: o4 :: o5 :: o6 :: o7 :: o8 :: o9 :: o10 :: o11 :: o12 :: o13 :: l).toArray Q S (fuel + 1) listed a w := wpAnyH_take rfl hs hf hr hQ hy hS h
theorem br13 {P : Program} {Q : Exit → Act → World → Prop} {md : Region.Mode} {S : World → Prop} {o0 o1 o2 o3 o4 o5 o6 o7 o8 o9 o10 o11 o12 o13 : Oper} {l : List Oper} {fuel : Nat} {listed : Array Bool} {a : Act} {w : World}
    (hr : Region.ready md (o0 :: o1 :: o2 :: o3 :: o4 :: o5 :: o6 :: o7 :: o8 :: o9 :: o10 :: o11 :: o12 :: o13 :: l).toArray listed = [13])
    (h : ∀ K' : Act → World → Prop, Shut (∀ a w, S w → (S w → wpAnyH P md (o0 :: o1 :: o2 :: o3 :: o4 :: o5 :: o6 :: o7 :: o8 :: o9 :: o10 :: o11 :: o12 :: o13 :: l).toArray Q S fuel (listed.setIfInBounds 13 true) a w) → K' a w) → if Region.wanted o13 (yielded (o0 :: o1 :: o2 :: o3 :: o4 :: o5 :: o6 :: o7 :: o8 :: o9 :: o10 :: o11 :: o12 :: o13 :: l).toArray a.tmps) = true then Oper.wp P o13 a w K' Q else K' (a.put o13.dst undef) w) :
    wpAnyH P md (o0 :: o1 :: o2 :: o3 :: o4 :: o5 :: o6 :: o7 :: o8 :: o9 :: o10 :: o11 :: o12 :: o13 :: l).toArray Q S (fuel + 1) listed a w := wpAnyH_ready hr (by simp) (AllReadyH.cons rfl h AllReadyH.nil)
theorem tk14 {P : Program} {Q : Exit → Act → World → Prop} {md : Region.Mode} {S : World → Prop} {o0 o1 o2 o3 o4 o5 o6 o7 o8 o9 o10 o11 o12 o13 o14 : Oper} {l : List Oper} {v : Value} {fuel : Nat} {listed : Array Bool} {a : Act} {w : World}
    (hs : Region.noSelect (o0 :: o1 :: o2 :: o3 :: o4 :: o5 :: o6 :: o7 :: o8 :: o9 :: o10 :: o11 :: o12 :: o13 :: o14 :: l).toArray = true) (hf : Region.free md (o0 :: o1 :: o2 :: o3 :: o4 :: o5 :: o6 :: o7 :: o8 :: o9 :: o10 :: o11 :: o12 :: o13 :: o14 :: l).toArray listed 14 = true) (hr : (Region.ready md (o0 :: o1 :: o2 :: o3 :: o4 :: o5 :: o6 :: o7 :: o8 :: o9 :: o10 :: o11 :: o12 :: o13 :: o14 :: l).toArray listed).contains 14 = true)
    (hQ : ∀ c a w, Q (.panic c) (a.put o14.dst v) w → Q (.panic c) a w) (hy : YieldsIf P (o0 :: o1 :: o2 :: o3 :: o4 :: o5 :: o6 :: o7 :: o8 :: o9 :: o10 :: o11 :: o12 :: o13 :: o14 :: l).toArray S o14 v a) (hS : S w)
    (h : wpAnyH P md (o0 :: o1 :: o2 :: o3 :: o4 :: o5 :: o6 :: o7 :: o8 :: o9 :: o10 :: o11 :: o12 :: o13 :: o14 :: l).toArray Q S fuel (listed.setIfInBounds 14 true) (a.put o14.dst v) w) : wpAnyH P md (o0 :: o1 :: o2 :: o3 :: o4 :: o5 :: o6 :: o7 :: o8 :: o9 :: o10 :: o11 :: o12 :: o13 :: o14 :: l).toArray Q S (fuel + 1) listed a w := wpAnyH_take rfl hs hf hr hQ hy hS h
theorem br14 {P : Program} {Q : Exit → Act → World → Prop} {md : Region.Mode} {S : World → Prop} {o0 o1 o2 o3 o4 o5 o6 o7 o8 o9 o10 o11 o12 o13 o14 : Oper} {l : List Oper} {fuel : Nat} {listed : Array Bool} {a : Act} {w : World}
    (hr : Region.ready md (o0 :: o1 :: o2 :: o3 :: o4 :: o5 :: o6 :: o7 :: o8 :: o9 :: o10 :: o11 :: o12 :: o13 :: o14 :: l).toArray listed = [14])
    (h : ∀ K' : Act → World → Prop, Shut (∀ a w, S w → (S w → wpAnyH P md (o0 :: o1 :: o2 :: o3 :: o4 :: o5 :: o6 :: o7 :: o8 :: o9 :: o10 :: o11 :: o12 :: o13 :: o14 :: l).toArray Q S fuel (listed.setIfInBounds 14 true) a w) → K' a w) → if Region.wanted o14 (yielded (o0 :: o1 :: o2 :: o3 :: o4 :: o5 :: o6 :: o7 :: o8 :: o9 :: o10 :: o11 :: o12 :: o13 :: o14 :: l).toArray a.tmps) = true then Oper.wp P o14 a w K' Q else K' (a.put o14.dst undef) w) :
    wpAnyH P md (o0 :: o1 :: o2 :: o3 :: o4 :: o5 :: o6 :: o7 :: o8 :: o9 :: o10 :: o11 :: o12 :: o13 :: o14 :: l).toArray Q S (fuel + 1) listed a w := wpAnyH_ready hr (by simp) (AllReadyH.cons rfl h AllReadyH.nil)

theorem RL.form {k : IntKind} {w : World} {v : Value} {xs : List Int} (h : RL k w v xs) : ∃ A c, v = .slice A xs.length c := by
  obtain ⟨A, c, rfl, _⟩ := h
  exact ⟨A, c, rfl⟩
theorem RL.drew_ {k : IntKind} {w : World} {v : Value} {xs : List Int} (h : RL k w v xs) : RL k w.drew v xs := h.below (below_drew (Below.refl _ _))

set_option maxRecDepth 100000 in
set_option maxHeartbeats 8000000 in
theorem reg43 (Q : Exit → Act → World → Prop) (W : World) (Ad Al : Option Addr) (ld cd ll cl N L : Nat) (x : Int) (u0 u1 u2 u3 u5 u6 u7 u8 u9 u10 u12 u13 u14 u15 u16 u17 u18 u19 u20 u21 u22 u23 u24 u25 u26 u27 u30 u31 u32 u33 u34 u35 u36 u37 u38 u39 u40 u41 u42 u43 u44 u45 u46 u47 u48 u49 u50 u51 u52 u53 u54 u55 u56 u57 u58 u59 u60 u61 u62 u63 u64 u65 u66 u67 u68 u69 u70 u71 u72 u73 u74 u75 u76 u77 u78 u79 u80 u81 u82 u83 u84 u85 u86 u87 u88 u89 u90 u91 u92 u93 u94 u95 u96 u97 u98 u99 u100 u101 u102 u103 u104 u105 u106 u107 u108 u109 u110 u111 u112 u113 u114 u115 u116 u117 u118 u119 u120 u121 u122 u123 u124 u125 u126 u127 u128 u129 u130 u131 u132 u133 u134 u135 u136 u137 u138 u139 u140 u141 u142 u143 u144 u145 u146 u147 u148 u149 u150 u151 u152 u153 u154 u155 u156 u157 u158 u159 u160 u161 u162 u163 u164 u165 u166 u167 u168 u169 u170 u171 u172 u173 u174 u175 u176 u177 u178 u179 u180 u181 u182 u183 u184 u185 u186 u187 u188 u189 u190 u191 u192 u193 u194 u195 u196 u197 u198 u199 u200 u201 u202 u203 u204 u205 u206 u207 u208 u209 u210 u211 u212 u213 u214 u215 u216 u217 u218 u219 u220 u221 u222 u223 u224 u225 u226 u227 u228 u229 u230 u231 u232 u233 u234 u235 u236 u237 u238 u239 u240 u241 u242 u243 u244 u245 u246 u247 u248 u249 u250 u251 u252 u253 u254 u255 u256 u257 u258 u259 u260 u261 u262 u263 u264 u265 u266 u267 u268 u269 u270 u271 u272 u273 u274 u275 u276 u277 u278 u279 u280 u281 u282 u283 u284 u285 u286 u287 u288 u289 u290 u291 u292 u293 u294 u295 u296 u297 u298 u299 u300 u301 u302 u303 u304 u305 u306 u307 u308 u309 u310 u311 u312 u313 u314 u315 u316 u317 : Value)
    (ops : Array Oper) (hops : opsOf Try.f9 43 = ops)
    (hX : DG W (.slice Ad ld cd) x L) (hL : L ≤ 400) (hN : N ≤ 640) (hB : RL .u8 W (.slice Al ll cl) (bytesOf x N)) (hmx : Try.prog.follows .mixedOrders = true)
    (hQ : ∀ (y304 y305 y306 y307 y308 y309 y310 y311 y312 y313 y314 y315 y316 y317 : Value) W', Below W.heap.size W W' → Q .normal { tmps := #[u0, u1, u2, u3, .int .i64 (N : Int), u5, u6, u7, u8, u9, .bool true, .slice Ad ld cd, u12, u13, u14, u15, u16, u17, u18, u19, u20, u21, u22, u23, u24, u25, u26, u27, .slice Al ll cl, .int .i64 0, u30, u31, u32, u33, u34, u35, u36, u37, u38, u39, u40, u41, u42, u43, u44, u45, u46, u47, u48, u49, u50, u51, u52, u53, u54, u55, u56, u57, u58, u59, u60, u61, u62, u63, u64, u65, u66, u67, u68, u69, u70, u71, u72, u73, u74, u75, u76, u77, u78, u79, u80, u81, u82, u83, u84, u85, u86, u87, u88, u89, u90, u91, u92, u93, u94, u95, u96, u97, u98, u99, u100, u101, u102, u103, u104, u105, u106, u107, u108, u109, u110, u111, u112, u113, u114, u115, u116, u117, u118, u119, u120, u121, u122, u123, u124, u125, u126, u127, u128, u129, u130, u131, u132, u133, u134, u135, u136, u137, u138, u139, u140, u141, u142, u143, u144, u145, u146, u147, u148, u149, u150, u151, u152, u153, u154, u155, u156, u157, u158, u159, u160, u161, u162, u163, u164, u165, u166, u167, u168, u169, u170, u171, u172, u173, u174, u175, u176, u177, u178, u179, u180, u181, u182, u183, u184, u185, u186, u187, u188, u189, u190, u191, u192, u193, u194, u195, u196, u197, u198, u199, u200, u201, u202, u203, u204, u205, u206, u207, u208, u209, u210, u211, u212, u213, u214, u215, u216, u217, u218, u219, u220, u221, u222, u223, u224, u225, u226, u227, u228, u229, u230, u231, u232, u233, u234, u235, u236, u237, u238, u239, u240, u241, u242, u243, u244, u245, u246, u247, u248, u249, u250, u251, u252, u253, u254, u255, u256, u257, u258, u259, u260, u261, u262, u263, u264, u265, u266, u267, u268, u269, u270, u271, u272, u273, u274, u275, u276, u277, u278, u279, u280, u281, u282, u283, u284, u285, u286, u287, u288, u289, u290, u291, u292, u293, u294, u295, u296, u297, u298, u299, u300, u301, u302, u303, y304, y305, y306, y307, y308, y309, y310, y311, y312, y313, y314, y315, y316, y317], defers := [] } W') :
    (Code.region 43 ops true).wp Try.prog Q { tmps := #[u0, u1, u2, u3, .int .i64 (N : Int), u5, u6, u7, u8, u9, u10, .slice Ad ld cd, u12, u13, u14, u15, u16, u17, u18, u19, u20, u21, u22, u23, u24, u25, u26, u27, .slice Al ll cl, .int .i64 0, u30, u31, u32, u33, u34, u35, u36, u37, u38, u39, u40, u41, u42, u43, u44, u45, u46, u47, u48, u49, u50, u51, u52, u53, u54, u55, u56, u57, u58, u59, u60, u61, u62, u63, u64, u65, u66, u67, u68, u69, u70, u71, u72, u73, u74, u75, u76, u77, u78, u79, u80, u81, u82, u83, u84, u85, u86, u87, u88, u89, u90, u91, u92, u93, u94, u95, u96, u97, u98, u99, u100, u101, u102, u103, u104, u105, u106, u107, u108, u109, u110, u111, u112, u113, u114, u115, u116, u117, u118, u119, u120, u121, u122, u123, u124, u125, u126, u127, u128, u129, u130, u131, u132, u133, u134, u135, u136, u137, u138, u139, u140, u141, u142, u143, u144, u145, u146, u147, u148, u149, u150, u151, u152, u153, u154, u155, u156, u157, u158, u159, u160, u161, u162, u163, u164, u165, u166, u167, u168, u169, u170, u171, u172, u173, u174, u175, u176, u177, u178, u179, u180, u181, u182, u183, u184, u185, u186, u187, u188, u189, u190, u191, u192, u193, u194, u195, u196, u197, u198, u199, u200, u201, u202, u203, u204, u205, u206, u207, u208, u209, u210, u211, u212, u213, u214, u215, u216, u217, u218, u219, u220, u221, u222, u223, u224, u225, u226, u227, u228, u229, u230, u231, u232, u233, u234, u235, u236, u237, u238, u239, u240, u241, u242, u243, u244, u245, u246, u247, u248, u249, u250, u251, u252, u253, u254, u255, u256, u257, u258, u259, u260, u261, u262, u263, u264, u265, u266, u267, u268, u269, u270, u271, u272, u273, u274, u275, u276, u277, u278, u279, u280, u281, u282, u283, u284, u285, u286, u287, u288, u289, u290, u291, u292, u293, u294, u295, u296, u297, u298, u299, u300, u301, u302, u303, u304, u305, u306, u307, u308, u309, u310, u311, u312, u313, u314, u315, u316, u317], defers := [] } W := by
  subst hops
  have HX := Aside0.mk hX
  have HB := Aside0.mk hB
  have HQ := Aside0.mk hQ
  clear hX hB hQ
  obtain ⟨s, hs⟩ : ∃ s, strB (bytesOf x N) = s := ⟨_, rfl⟩
  have hst : ∀ W', Below W.heap.size W W' → (convert 22 9 (.slice Al ll cl)).run Try.prog W' = .ok (.string s) W' := fun W' hb => hs ▸ str_run (HB.out.below hb)
  have HST := Aside0.mk hst
  have HS := Aside0.mk hs
  clear hst hs
  simp only [opsOf, Try.f9, opsIn, Option.bind_some, Option.getD_some, Nat.reduceEqDiff, Nat.reduceBEq, ↓reduceIte, Bool.false_eq_true, if_false]
  refine wp_region_noPanic ?_
  refine wp_region_held_drew (S := (fun w' => (convert 22 9 (.slice Al ll cl)).run Try.prog w' = .ok (.string s) w' ∧ Aside0 (Below W.heap.size W w'))) (by kernel_rfl) ⟨HST.out _ (below_drew (Below.refl _ _)), ⟨below_drew (Below.refl _ _)⟩⟩ (fun hHeld => ?_)
  refine tk0 (v := ?_) (by kernel_rfl) (by kernel_rfl) (by kernel_rfl) (fun _ _ _ h => h) (Or.inl ⟨by rfl, ?_⟩) hHeld ?_
  rotate_left; · (intro w hSw; (try dsimp only at hSw); go_simp; first | done | with_reducible rfl)
  try simp only [Act.put, List.setIfInBounds_toArray, List.set_cons_zero, List.set_cons_succ]
  refine tk1 (v := ?_) (by kernel_rfl) (by kernel_rfl) (by kernel_rfl) (fun _ _ _ h => h) (Or.inl ⟨by rfl, ?_⟩) hHeld ?_
  rotate_left; · (intro w hSw; (try dsimp only at hSw); go_simp; first | done | with_reducible rfl)
  try simp only [Act.put, List.setIfInBounds_toArray, List.set_cons_zero, List.set_cons_succ]
  refine tk2 (v := ?_) (by kernel_rfl) (by kernel_rfl) (by kernel_rfl) (fun _ _ _ h => h) (Or.inl ⟨by rfl, ?_⟩) hHeld ?_
  rotate_left; · (intro w hSw; (try dsimp only at hSw); go_simp; first | done | with_reducible rfl)
  try simp only [Act.put, List.setIfInBounds_toArray, List.set_cons_zero, List.set_cons_succ]
  refine tk3 (v := ?_) (by kernel_rfl) (by kernel_rfl) (by kernel_rfl) (fun _ _ _ h => h) (Or.inl ⟨by rfl, ?_⟩) hHeld ?_
  rotate_left; · (intro w hSw; (try dsimp only at hSw); go_simp; first | done | with_reducible rfl)
  try simp only [Act.put, List.setIfInBounds_toArray, List.set_cons_zero, List.set_cons_succ]
  refine tk4 (v := ?_) (by kernel_rfl) (by kernel_rfl) (by kernel_rfl) (fun _ _ _ h => h) (Or.inl ⟨by rfl, ?_⟩) hHeld ?_
  rotate_left; · (intro w hSw; (try dsimp only at hSw); go_simp; first | done | with_reducible rfl)
  try simp only [Act.put, List.setIfInBounds_toArray, List.set_cons_zero, List.set_cons_succ]
  refine tk5 (v := ?_) (by kernel_rfl) (by kernel_rfl) (by kernel_rfl) (fun _ _ _ h => h) (Or.inl ⟨by rfl, ?_⟩) hHeld ?_
  rotate_left; · (intro w hSw; (try dsimp only at hSw); go_simp; first | done | with_reducible rfl)
  try simp only [Act.put, List.setIfInBounds_toArray, List.set_cons_zero, List.set_cons_succ]
  refine tk6 (v := ?_) (by kernel_rfl) (by kernel_rfl) (by kernel_rfl) (fun _ _ _ h => h) (Or.inl ⟨by rfl, ?_⟩) hHeld ?_
  rotate_left; · (intro w hSw; (try dsimp only at hSw); go_simp; first | done | with_reducible rfl)
  try simp only [Act.put, List.setIfInBounds_toArray, List.set_cons_zero, List.set_cons_succ]
  refine br7 (by kernel_rfl) (fun K hK => ?_)
  go_simp
  (go_at_call 41; refine (rbytes_n (HX.out.below hHeld.2.out) N (by omega)).mono ?_; rintro e wz ⟨vz, rfl, qz, bz⟩; have HW1 := Aside0.mk (bon hHeld.2.out bz); obtain ⟨Az, cz, rfl⟩ := qz.form; have hz1 := str_run qz; rw [HS.out] at hz1; clear qz bz hHeld)
  refine hK.out _ _ ⟨HST.out _ HW1.out, HW1⟩ (fun hHeld => ?_)
  clear hK K
  try simp only [Act.put, List.setIfInBounds_toArray, List.set_cons_zero, List.set_cons_succ]
  refine br8 (by kernel_rfl) (fun K hK => ?_)
  go_simp
  refine hK.out _ _ ⟨HST.out _ HW1.out, HW1⟩ (fun hHeld => ?_)
  clear hK K
  try simp only [Act.put, List.setIfInBounds_toArray, List.set_cons_zero, List.set_cons_succ]
  refine tk9 (v := ?_) (by kernel_rfl) (by kernel_rfl) (by kernel_rfl) (fun _ _ _ h => h) (Or.inl ⟨by rfl, ?_⟩) hHeld ?_
  rotate_left; · (intro w hSw; (try dsimp only at hSw); go_simp; first | done | with_reducible rfl)
  try simp only [Act.put, List.setIfInBounds_toArray, List.set_cons_zero, List.set_cons_succ]
  refine tk10 (v := ?_) (by kernel_rfl) (by kernel_rfl) (by kernel_rfl) (fun _ _ _ h => h) (Or.inl ⟨by rfl, ?_⟩) hHeld ?_
  rotate_left; · (intro w hSw; (try dsimp only at hSw); go_simp; first | done | with_reducible rfl)
  try simp only [Act.put, List.setIfInBounds_toArray, List.set_cons_zero, List.set_cons_succ]
  refine tk11 (v := ?_) (by kernel_rfl) (by kernel_rfl) (by kernel_rfl) (fun _ _ _ h => h) (Or.inl ⟨by rfl, ?_⟩) hHeld ?_
  rotate_left; · (intro w hSw; (try dsimp only at hSw); go_simp; first | done | with_reducible rfl)
  try simp only [Act.put, List.setIfInBounds_toArray, List.set_cons_zero, List.set_cons_succ]
  refine br12 (by kernel_rfl) (fun K hK => ?_)
  go_simp
  (go_at_call 19; refine (wakes1_calls _).mono ?_; rintro e wy ⟨rfl, bw⟩; have HW2 := Aside0.mk (bon hHeld.2.out bw); clear bw hHeld)
  refine hK.out _ _ ⟨HST.out _ HW2.out, HW2⟩ (fun hHeld => ?_)
  clear hK K
  try simp only [Act.put, List.setIfInBounds_toArray, List.set_cons_zero, List.set_cons_succ]
  refine tk13 (v := ?_) (by kernel_rfl) (by kernel_rfl) (by kernel_rfl) (fun _ _ _ h => h) (Or.inl ⟨by rfl, ?_⟩) hHeld ?_
  rotate_left; · (intro w hSw; (try dsimp only at hSw); go_simp; first | done | with_reducible rfl)
  try simp only [Act.put, List.setIfInBounds_toArray, List.set_cons_zero, List.set_cons_succ]
  refine tk14 (v := ?_) (by kernel_rfl) (by kernel_rfl) (by kernel_rfl) (fun _ _ _ h => h) (Or.inl ⟨by rfl, ?_⟩) hHeld ?_
  rotate_left; · (intro w hSw; (try dsimp only at hSw); go_simp; first | done | with_reducible rfl)
  try simp only [Act.put, List.setIfInBounds_toArray, List.set_cons_zero, List.set_cons_succ]
  refine wpAnyH_done (by kernel_rfl) ?_ _
  refine NoPanic.normal ?_
  exact HQ.out _ _ _ _ _ _ _ _ _ _ _ _ _ _ _ HW2.out
end Go.Proofs.Ytokadjfakncdfaa
end
