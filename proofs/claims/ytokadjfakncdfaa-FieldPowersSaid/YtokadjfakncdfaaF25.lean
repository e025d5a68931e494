/- A region that leaves its order open, by what holds behind each operation. -/
import Derived.Test.YtokadjfakncdfaaFA
set_option linter.unusedVariables false
set_option linter.unusedSimpArgs false
namespace Go.Proofs.Ytokadjfakncdfaa
open Go.RowKit Go.Proofs.YtokadjfakncdfaaW.PrintWords Go.Proofs.YtokadjfakncdfaaW.PrintLast Go.Proofs.YtokadjfakncdfaaW.PrintMore
theorem count_set_true : ∀ (l : List Bool) (i : Nat), l[i]? = some false → (l.set i true).count false + 1 = l.count false
  | [], i, h => by simp at h
  | b :: l, 0, h => by
    have hb : b = false := by simpa using h
    subst hb
    simp
  | b :: l, i + 1, h => by
    have ih := count_set_true l i (by simpa using h)
    rw [List.set_cons_succ, List.count_cons, List.count_cons]
    omega
/-- What holds ahead of every operation, and lets each that may come up next by. -/
theorem wpAnyH_inv {P : Program} {md : Region.Mode} {ops : Array Oper} {Q : Exit → Act → World → Prop} {S : World → Prop} (I : Array Bool → Act → World → Prop)
    (hS : ∀ l a w, I l a w → S w)
    (hstep : ∀ l a w i, I l a w → i ∈ Region.ready md ops l → wpOp P ops Q i (fun a' w' => I (l.setIfInBounds i true) a' w') a w)
    (hend : ∀ l a w, I l a w → Region.ready md ops l = [] → Q .normal a w) :
    ∀ (fuel : Nat) (l : Array Bool) (a : Act) (w : World), l.toList.count false ≤ fuel → I l a w → wpAnyH P md ops Q S fuel l a w
  | 0, l, a, w, hf, hi => by
    have hr : Region.ready md ops l = [] := by
      refine List.eq_nil_iff_forall_not_mem.2 fun i h => ?_
      have h1 := (mem_ready.1 h).1
      have h2 : l.toList[i]? = some false := by
        rcases Nat.lt_or_ge i l.size with hl | hl
        · simpa [Array.getD_eq_getD_getElem?, hl] using h1
        · simp [Array.getD_eq_getD_getElem?, Array.getElem?_eq_none hl] at h1
      have := count_set_true _ _ h2
      omega
    exact ⟨hr, hend _ _ _ hi hr⟩
  | fuel + 1, l, a, w, hf, hi => by
    refine ⟨fun hr => hend _ _ _ hi hr, fun i h => ?_⟩
    refine wpOp_mono (fun a' w' h' => ⟨hS _ _ _ h', wpAnyH_inv I hS hstep hend fuel _ _ _ ?_ h'⟩) (hstep _ _ _ _ hi h)
    have h1 := (mem_ready.1 h).1
    have h2 : l.toList[i]? = some false := by
      rcases Nat.lt_or_ge i l.size with hl | hl
      · simpa [Array.getD_eq_getD_getElem?, hl] using h1
      · simp [Array.getD_eq_getD_getElem?, Array.getElem?_eq_none hl] at h1
    have := count_set_true _ _ h2
    rw [Array.toList_setIfInBounds]
    omega
/-- Which operations must come ahead of operation j. -/
def depsOf (md : Region.Mode) (ops : Array Oper) (j : Nat) : List Nat :=
  match ops[j]? with
  | some o => (o.after.toList.filter (Region.binds md)).map (·.on)
  | none => []
theorem ready_deps {md : Region.Mode} {ops : Array Oper} {l : Array Bool} {j : Nat} (h : j ∈ Region.ready md ops l) {ds : List Nat} (hd : depsOf md ops j = ds) (d : Nat) (hm : d ∈ ds) : l.getD d false = true := by
  obtain ⟨_, o, ho, ha⟩ := mem_ready.1 h
  subst hd
  unfold depsOf at hm
  rw [ho] at hm
  obtain ⟨e, he, rfl⟩ := List.mem_map.1 hm
  obtain ⟨he1, he2⟩ := List.mem_filter.1 he
  exact ha e (by simpa using he1) he2
theorem ready_un {md : Region.Mode} {ops : Array Oper} {l : Array Bool} {j : Nat} (h : j ∈ Region.ready md ops l) : l.getD j false = false := by
  have h1 := (mem_ready.1 h).1
  rcases Nat.lt_or_ge j l.size with hl | hl
  · simpa [Array.getD_eq_getD_getElem?, hl] using h1
  · simp [Array.getD_eq_getD_getElem?, Array.getElem?_eq_none hl] at h1
theorem ready_lt {md : Region.Mode} {ops : Array Oper} {l : Array Bool} {j : Nat} (h : j ∈ Region.ready md ops l) : j < ops.size := by
  obtain ⟨_, o, ho, _⟩ := mem_ready.1 h
  exact (Array.getElem?_eq_some_iff.1 ho).1
theorem ready_all {md : Region.Mode} {ops : Array Oper} {l : Array Bool} {j : Nat} (h : Region.ready md ops l = []) (hj : j < ops.size) (hl : j < l.size) {ds : List Nat} (hd : depsOf md ops j = ds) (ha : ∀ d ∈ ds, l.getD d false = true) : l.getD j false = true := by
  cases hb : l.getD j false with
  | true => rfl
  | false =>
    exfalso
    have : j ∈ Region.ready md ops l := by
      refine mem_ready.2 ⟨?_, ops[j], Array.getElem?_eq_getElem hj, fun e he hbd => ha _ ?_⟩
      · simpa [Array.getD_eq_getD_getElem?, hl] using hb
      · rw [← hd]
        unfold depsOf
        rw [Array.getElem?_eq_getElem hj]
        exact List.mem_map.2 ⟨e, List.mem_filter.2 ⟨by simpa using he, hbd⟩, rfl⟩
    rw [h] at this
    cases this
theorem flag_set {l : Array Bool} {n i : Nat} (j : Nat) (h : l.size = n) (hi : i < n) : (l.setIfInBounds i true).getD j false = if i = j then true else l.getD j false := by
  by_cases e : i = j
  · subst e
    rw [if_pos rfl]
    simp [Array.getD_eq_getD_getElem?, h, hi]
  · rw [if_neg e, _root_.Go.getD_set_ne false e]
theorem wpOp_shut {P : Program} {ops : Array Oper} {Q : Exit → Act → World → Prop} {i : Nat} {o : Oper} {K : Act → World → Prop} {a : Act} {w : World} (ho : ops[i]? = some o)
    (h : ∀ K' : Act → World → Prop, Shut (∀ a w, K a w → K' a w) → if Region.wanted o (yielded ops a.tmps) = true then Oper.wp P o a w K' Q else K' (a.put o.dst undef) w) : wpOp P ops Q i K a w :=
  wpOp_step ho h
theorem wpAnyH_named {P : Program} {md : Region.Mode} {ops : Array Oper} {Q : Exit → Act → World → Prop} {S : World → Prop} {fuel : Nat} {l : Array Bool} {a : Act} {w : World} (h : ∀ A, A = a → wpAnyH P md ops Q S fuel l A w) : wpAnyH P md ops Q S fuel l a w := h a rfl
end Go.Proofs.Ytokadjfakncdfaa
