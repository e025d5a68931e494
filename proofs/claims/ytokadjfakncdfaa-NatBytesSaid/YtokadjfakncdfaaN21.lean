/- nat: FromBytes. -/
import Derived.Test.YtokadjfakncdfaaN14
import Derived.Test.YtokadjfakncdfaaN17
import Derived.Test.YtokadjfakncdfaaN20
set_option linter.unusedVariables false
set_option linter.unusedSimpArgs false
namespace Go.Proofs.Ytokadjfakncdfaa
open Go.RowKit Go.Proofs.YtokadjfakncdfaaW.PrintWords Go.Proofs.YtokadjfakncdfaaW.PrintLast Go.Proofs.YtokadjfakncdfaaW.PrintMore
open PR
attribute [local go_sem] Oper.semAt_some

def wordAt (ys : List Int) (k : Nat) : Int := nv B8 ((ys.drop (8 * k)).take 8).reverse
theorem upF_map (f : Nat → Int) (m : Nat) : ∀ (k : Nat) (hk : k ≤ m), (upF m k hk).map (fun x => f x.val) = (List.range k).map f
  | 0, _ => rfl
  | k + 1, hk => by rw [List.range_succ, List.map_append, ← upF_map f m k (by omega)]; simp [upF]
theorem B8_8 : B8 ^ 8 = B64 := by decide
theorem nv_words (m : Nat) : ∀ (ys : List Int), ys.length = 8 * m → nv B64 ((List.range m).map (wordAt ys)).reverse = nv B8 ys.reverse := by
  induction m with
  | zero => intro ys h; have : ys = [] := List.eq_nil_of_length_eq_zero (by omega); subst this; rfl
  | succ m ih =>
    intro ys h
    have e1 : ys = ys.take (8 * m) ++ ys.drop (8 * m) := (List.take_append_drop _ _).symm
    have l1 : (ys.take (8 * m)).length = 8 * m := by rw [List.length_take]; omega
    have l2 : (ys.drop (8 * m)).length = 8 := by rw [List.length_drop]; omega
    have e2 : (List.range m).map (wordAt ys) = (List.range m).map (wordAt (ys.take (8 * m))) := by
      refine List.map_congr_left fun k hk => ?_
      have hk' : k < m := List.mem_range.1 hk
      unfold wordAt
      rw [List.drop_take, List.take_take, Nat.min_eq_left (by omega)]
    have e3 : wordAt ys m = nv B8 (ys.drop (8 * m)).reverse := by
      unfold wordAt
      rw [List.take_of_length_le (by omega)]
    rw [List.range_succ, List.map_append, List.map_cons, List.map_nil, List.reverse_append, List.reverse_singleton, List.singleton_append, nv_cons, e2, ih _ l1, e3]
    conv => rhs; rw [e1]
    rw [List.reverse_append, nv_append, List.length_reverse, l2, B8_8]
theorem wordAt_range {ys : List Int} (h : Dig B8 ys) (k : Nat) : 0 ≤ wordAt ys k ∧ wordAt ys k < B64 := by
  have h1 := be_lt ((h.drop (8 * k)).take 8)
  have h2 : (256 : Int) ^ ((ys.drop (8 * k)).take 8).length ≤ 256 ^ 8 := pow_le_pow' (by omega) (by rw [List.length_take]; omega)
  have h3 : (256 : Int) ^ 8 = B64 := by decide
  exact ⟨h1.1, by have := h1.2; unfold wordAt; omega⟩
theorem words_dig {ys : List Int} (h : Dig B8 ys) (m : Nat) : Dig B64 ((List.range m).map (wordAt ys)) := by
  intro x hx
  obtain ⟨k, _, rfl⟩ := List.mem_map.1 hx
  exact wordAt_range h k
theorem pad_nv (p : Nat) (xs : List Int) : nv B8 (List.replicate p 0 ++ xs).reverse = nv B8 xs.reverse := by
  rw [List.reverse_append, nv_append, List.reverse_replicate, nv_replicate]; simp
/-- Of a row, eight from a place on. -/
theorem RL.eight {W : World} {g c : Nat} {ys : List Int} (h : RL .u8 W (.slice (some ⟨g, 0, none⟩) ys.length c) ys) (k : Nat) (hk : 8 * k + 8 ≤ ys.length) : RL .u8 W (.slice (some ⟨g, 8 * k, none⟩) 8 8) ((ys.drop (8 * k)).take 8) := by
  obtain ⟨A, c', he, hc, hC⟩ := h
  cases he
  have l8 : ((ys.drop (8 * k)).take 8).length = 8 := by rw [List.length_take, List.length_drop]; omega
  refine ⟨some ⟨g, 8 * k, none⟩, 8, by rw [l8], by omega, rfl, by omega, fun _ => ⟨_, rfl, fun j p hj => ?_⟩⟩
  have hj8 : j < 8 := by
    rcases Nat.lt_or_ge j 8 with h | h
    · exact h
    · rw [List.getElem?_eq_none (by omega)] at hj; cases hj
  refine ⟨[.int .u8 p], rfl, rfl, fun i u hu => ?_⟩
  have hi0 : i = 0 := by
    rcases Nat.eq_zero_or_pos i with h0 | h0
    · exact h0
    · rw [List.getElem?_eq_none (by simp; omega)] at hu; cases hu
  subst hi0
  have hu' : u = .int .u8 p := by simpa using hu.symm
  subst hu'
  obtain ⟨ad, e, hcell⟩ := C_cell hC (8 * k + j) (by omega)
  cases e
  have hp : ys.getD (8 * k + j) 0 = p := by
    rw [List.getElem?_take, if_pos hj8, List.getElem?_drop] at hj
    rw [List.getD_eq_getElem?_getD, hj]
    rfl
  rw [hp] at hcell
  rw [← hcell]
  by_cases hj0 : j = 0 <;> by_cases hk0 : 8 * k = 0 <;> simp [Addr.add, Kd.int, Kd.scalar, hj0, hk0]

def FbI (W3 : World) (go : Nat) (all : List Int) (m : Nat) (pre : List (Fin m)) (W : World) : Prop :=
  (∃ vo, W.heap[go]? = some (.cells #[vo] 31 (0, 0)) ∧ RO .u64 30 W (go + 3) vo (pre.map fun x => wordAt all x.val)) ∧ Below go W3 W ∧ go + 3 ≤ W.heap.size
theorem FbI.own {W3 : World} {go : Nat} {all : List Int} {m B : Nat} (hB : go ≤ B) : OwnFrom B (FbI W3 go all m) := by
  rintro pre W W' row ⟨⟨vo, h1, h2⟩, h3, h4⟩ hg hr
  have hr' : ∀ r, row = some r → ∃ o : Obj, W.heap[r]? = some o ∧ o.isCells = false := fun r e => (hr r e).2
  exact ⟨⟨vo, blk_own h1 hg hr', RO.own h2 hg hr'⟩, h3.grown hg (by omega) (fun k e => Nat.le_trans hB (hr k e).1), Nat.le_trans h4 hg.size⟩

set_option maxRecDepth 100000 in
set_option maxHeartbeats 8000000 in
theorem frombytes_n (v : Value) (xs : List Int) (w : World) (hx : RL .u8 w v xs) (hd : Dig B8 xs) (hl : xs.length ≤ 640) :
    Calls Try.prog 17 #[v] w fun e w' => ∃ v', e = .returned (.tuple #[v', .int .i64 0]) ∧ CN w' v' (nv B8 xs.reverse) 80 ∧ Below w.heap.size w w' := by
  obtain ⟨A, c, rfl, hc, hC⟩ := hx
  have HC := Aside0.mk hC
  have HD := Aside0.mk hd
  obtain ⟨p, hp⟩ : ∃ p, p = (8 - xs.length % 8) % 8 := ⟨_, rfl⟩
  obtain ⟨m, hm⟩ : ∃ m, p + xs.length = 8 * m := ⟨(p + xs.length) / 8, by omega⟩
  have HP := Aside0.mk (And.intro hp hm)
  have hp1 : (8 - (xs.length : Int) % 8) % 8 = (p : Int) := by omega
  have hp2 : p ≤ 8 := by omega
  clear hC hd hp hm
  refine (callsIn_wide (n := 5)).1 ?_
  refine callsIn_of_wp_marks Try.func17 rfl trivial ?_ rfl
  simp only [Try.ntmps17, List.size_toArray, List.length_cons, List.length_nil, Nat.reduceAdd, Nat.reduceSub, Array.replicate_succ, Array.replicate_zero, List.push_toArray, List.append_toArray, List.nil_append, List.cons_append]
  refine wpIn_wide.2 ?_
  go_wp2_with (first | ((with_reducible refine gate_dst (N := 15) rfl ?_); refine Kd.R_make (Kd.int .u8) (w0 := w) w.heap.size 5 rfl (N := 15) rfl 22 _ _ rfl ((8 - (xs.length : Int) % 8) % 8) rfl rfl Try.underlying22 (.int .u8 0) 1 info5' rfl (by decide) (by omega) 0 (ok := fun k => w.heap.size ≤ k) (okp := fun _ => False) rfl (fun _ hk => hk.elim) (Nat.le_refl _) (by omega) (by omega) (Below.refl _ _) (Nat.le_refl _) ?_; intro v15 w2 ho hw hg hn9; rw [show ((8 - (xs.length : Int) % 8) % 8).toNat = p by omega] at ho; have HO := Aside0.mk ho; have HW := Aside0.mk hw; clear ho hw hg hn9) | (at_builtin; refine Kd.R_append_rows (Kd.int .u8) (w0 := w) w.heap.size rfl _ _ 22 5 (.int .u8 0) 1 rfl Try.underlying22 info5' rfl (by decide) (by omega) _ (List.replicate p 0) xs A xs.length c (fun b => w.heap.size ≤ b) (fun _ => False) rfl rfl HO.out (Kd.C_below HC.out HW.out) (fun x cs h => h) (fun _ h => h.elim) (fun b hb => Nat.le_trans HW.out.size hb) HW.out HW.out.size (by simp; omega) ?_; intro v1 w3 ho hb hg hat; have HO1 := Aside0.mk ho; have HW1 := Aside0.mk hb; clear ho hb hg hat HO HW; obtain ⟨A1, c1, rfl⟩ := Kd.R_slice HO1.out))
  obtain ⟨all, hall⟩ : ∃ all, List.replicate p 0 ++ xs = all := ⟨_, rfl⟩
  have hM : p + xs.length = all.length := by rw [← hall]; simp
  rw [hall] at HO1
  have HALL := Aside0.mk (show all.length = 8 * m ∧ Dig B8 all ∧ nv B8 all.reverse = nv B8 xs.reverse from ⟨by rw [← hM]; exact HP.out.2, by rw [← hall]; exact (Dig.replicate B8_pos p).append HD.out, by rw [← hall]; exact pad_nv p xs⟩)
  have hMb : all.length ≤ 800 := by omega
  rw [hM]
  clear hall hM
  refine (chunk_calls A1 all.length c1 _).mono ?_
  rintro e w4 ⟨rfl, hw4⟩
  obtain ⟨go, hgo⟩ : ∃ go, w3.heap.size = go := ⟨_, rfl⟩
  have E1 : w4.heap[go]? = some (.cells #[.slice none 0 0] 31 (0, 0)) := by
    rw [hw4, ← hgo]
    exact heap_alloc_old (heap_alloc_old (heap_alloc_new w3 _))
  have E2 : w4.heap[go + 1]? = some (.cells #[.slice A1 all.length c1] 22 (0, 0)) := by
    rw [hw4]
    have h := heap_alloc_new (w3.alloc (.cells #[.slice none 0 0] 31)) (.cells #[.slice A1 all.length c1] 22)
    rw [World.size_alloc, hgo] at h
    exact heap_alloc_old h
  have E3 : w4.heap[go + 1 + 1]? = some (.cells #[.int .i64 8] 3 (0, 0)) := by
    rw [hw4]
    have h := heap_alloc_new ((w3.alloc (.cells #[.slice none 0 0] 31)).alloc (.cells #[.slice A1 all.length c1] 22)) (.cells #[.int .i64 8] 3)
    rw [World.size_alloc, World.size_alloc, hgo] at h
    exact h
  have E4 : Below w3.heap.size w3 w4 := by
    rw [hw4]
    exact (((Below.refl w3.heap.size w3).alloc (Nat.le_refl _) _).alloc (by simp) _).alloc (by simp; omega) _
  have E5 : w4.heap.size = go + 3 := by rw [hw4]; simp [hgo]
  have hBs : (w3.alloc (.cells #[.slice none 0 0] 31)).heap.size = go + 1 := by simp [hgo]
  rw [hBs, hgo]
  clear hBs hw4
  have EE := Aside0.mk (And.intro E1 (And.intro E2 (And.intro E3 (And.intro E4 (And.intro E5 hgo)))))
  clear E1 E2 E3 E4 E5 hgo
  go_wp2_with fail
  have hA1 : ∃ g, 0 < m → A1 = some ⟨g, 0, none⟩ := by
    by_cases h0 : 0 < m
    · obtain ⟨g, cap, eo, _⟩ := Kd.R_form HO1.out (by have := HALL.out.1; omega)
      exact ⟨g, fun _ => by cases eo; rfl⟩
    · exact ⟨0, fun h => absurd h h0⟩
  obtain ⟨g, hg⟩ := hA1
  have HA1 := Aside0.mk hg
  clear hg
  have hc1 : all.length ≤ c1 := by
    obtain ⟨A', c', he, hc', _⟩ := RL.of_R HO1.out
    cases he
    exact hc'
  have hseq := chunk1_stops 4 (by omega) A1 g m all.length c1 w4 (go + 1) HA1.out hc1 hMb HALL.out.1 EE.out.2.1 EE.out.2.2.1
  refine (wpIn_wide (n := 5)).1 ?_
  refine wpIn_rangeFunc_ownF rfl (by omega) (gf := 104) (lb := #[.pointer (some ⟨go + 1, 0, none⟩), .pointer (some ⟨go + 1 + 1, 0, none⟩)]) rfl trivial (enters_of Try.func104 (by kernel_rfl) rfl) hseq
    (fun h k => KpC.trans h k) ?kb (Below.refl _ _) (fun _ => rfl) (FbI w3 go all m) (fun _ _ _ => False) (FbI.own (by have := EE.out; omega)) (fun _ _ _ _ _ h _ _ => h) ?start
    (fun x => { tmps := #[.slice A xs.length c, undef, .slice none 0 0, .int .i64 0, .slice A1 all.length c1, .pointer (some ⟨go, 0, none⟩), .slice (some ⟨g, 8 * x.val, none⟩) 8 8, .slice A xs.length c, .int .i64 xs.length, .bool (decide ((640 : Int) < (xs.length : Int))), .slice A xs.length c, .int .i64 xs.length, .int .i64 ((xs.length : Int) % 8), .int .i64 (8 - (xs.length : Int) % 8), .int .i64 p, v15, .slice A xs.length c, .slice A1 all.length c1, .slice A1 all.length c1, .func (.func 104) #[] #[.pointer (some ⟨go + 1, 0, none⟩), .pointer (some ⟨go + 1 + 1, 0, none⟩)], .slice (some ⟨g, 8 * x.val, none⟩) 8 8, undef, undef, undef, undef, undef, undef, undef, undef, undef, undef], defers := [] }) ?assign ?body ?done ?stop
  case kb =>
    intro W l o o' hl h hc hw
    have := EE.out
    exact ⟨World.putObj_heap_other (by omega), World.putObj_heap_other (by omega)⟩
  case start =>
    obtain ⟨h1, h2, h3, h4, h5, h6⟩ := EE.out
    exact ⟨⟨_, h1, Kd.R_nil _ _ _ _ _⟩, h4.mono (by omega), by omega⟩
  case assign =>
    intro l x W K hK
    gi_wp2
    exact hK
  case body =>
    rintro l pre x W ⟨⟨vo, i1, i2⟩, i3, i4⟩ hpl
    have hx8 : 8 * x.val + 8 ≤ all.length := by have := HALL.out.1; have := x.isLt; omega
    have hAg := HA1.out (by have := x.isLt; omega)
    have hra : RL .u8 W (.slice (some ⟨g, 0, none⟩) all.length c1) all := by
      have h1 := RL.of_R HO1.out
      rw [hAg] at h1
      exact h1.below (by rw [EE.out.2.2.2.2.2]; exact i3)
    have h8 := hra.eight x.val hx8
    have hd8 := (HALL.out.2.1.drop (8 * x.val)).take 8
    have hl8 : ((all.drop (8 * x.val)).take 8).length = 8 := by rw [List.length_take, List.length_drop]; omega
    have hplen : (pre.map fun x => wordAt all x.val).length ≤ 1000 := by
      have hpl' : pre.length < m := hpl
      rw [List.length_map]
      have := HALL.out.1
      omega
    have hmx : Try.prog.follows .mixedOrders = true := by kernel_rfl
    have R := fun Q => reg7 l (5 - 1 - 1) Q W go (.slice (some ⟨g, 8 * x.val, none⟩) 8 8) vo (pre.map fun x => wordAt all x.val) ((all.drop (8 * x.val)).take 8)
    simp only [opsOf, Try.f17, opsIn, Option.bind_some, Option.getD_some, Nat.reduceEqDiff, Nat.reduceBEq, ↓reduceIte, Bool.false_eq_true, if_false] at R
    gi_wp2_with fail
    refine R _ _ _ _ _ _ _ _ _ _ _ _ _ _ _ _ _ _ _ _ _ _ _ _ _ _ _ _ _ _ i1 i2 hplen i4 h8 hd8 hl8 hmx ?_
    clear R
    intro tmps W' F
    simp only [Exit.inBlock]
    obtain ⟨v', o1, o2⟩ := F.out
    exact ⟨F.keeps, ⟨F.b1, F.b2⟩, ⟨v', o1, by rw [List.map_append, List.map_cons, List.map_nil]; exact o2⟩, i3.trans F.below, Nat.le_trans i4 F.below.size⟩
  case done =>
    rintro D xs W hD rfl ⟨⟨vo, i1, i2⟩, i3, i4⟩ hK
    obtain ⟨A5, c5, rfl⟩ := Kd.R_slice i2
    rw [upF_map (wordAt all) m m (Nat.le_refl _), List.length_map, List.length_range] at i2
    have hm100 : m ≤ 100 := by have := HALL.out.1; omega
    have i1' : W.heap[go]? = some (.cells #[.slice A5 m c5] 31 (0, 0)) := by
      rw [i1, List.length_map, upF_length]
    have c1' := cell_of_one i1'
    have II := Aside0.mk (And.intro i1' (And.intro i2 (And.intro i3 i4)))
    clear i1 i1' i2 i3 i4
    go_wp2_with fail
    have hbW : Below w.heap.size w W := HW1.out.trans (II.out.2.2.1.mono (by have := HW1.out.size; have := EE.out.2.2.2.2.2; omega))
    have hro : RO .u64 30 W w.heap.size (.slice A5 m c5) ((List.range m).map (wordAt all)) := by
      have h1 := II.out.2.1
      have hle : w.heap.size ≤ go + 3 := by have := HW1.out.size; have := EE.out.2.2.2.2.2; omega
      have h2 := Kd.R_mono (Kd.R_lower h1 hle) (ok' := fun b => w.heap.size ≤ b) (fun b hb => Nat.le_trans hle hb)
      exact h2
    refine (reverse_calls w W hbW _ _ hro (by simp; omega)).mono ?_
    rintro e W1 ⟨rfl, r1, r2, r3⟩
    have hgo1 : W1.heap[go]? = some (.cells #[.slice A5 m c5] 31 (0, 0)) := by
      exact blk_kept II.out.1 r3 (fun e => by have := Kd.R_base II.out.2.1 go e.symm; omega)
    have hK1 : W1.heap[D]? = some (.deferred (some [])) := by
      refine blk_kept hK r3 (fun e => ?_)
      obtain ⟨cells, hcs⟩ := Kd.R_typed II.out.2.1 D e.symm
      rw [hcs] at hK
      cases hK
    have c1' := cell_of_one hgo1
    have RR := Aside0.mk (And.intro r1 (And.intro r2 hK1))
    clear r1 r2 r3 hbW hro hK hgo1 hK1
    go_wp2_with fail
    refine (of_calls _ _ _ (RL.of_R RR.out.1) (words_dig HALL.out.2.1 m).reverse (by simp; omega)).mono ?_
    rintro e W2 ⟨v2, zs, rfl, o1, d1, n1, l1, b1⟩
    have FF := Aside0.mk (And.intro o1 (And.intro d1 (And.intro n1 (And.intro l1 b1))))
    clear o1 d1 n1 l1 b1
    go_wp2_with fail
    obtain ⟨r1, r2, hK1⟩ := RR.out
    obtain ⟨o1, d1, n1, l1, b1⟩ := FF.out
    have hlt := lt_of_block hK1
    have hK' : W2.heap[D]? = some (.deferred (some [])) := (b1.block D hlt).trans hK1
    have hb : Below w.heap.size w W2 := r2.trans (b1.mono r2.size)
    refine ⟨by simp, .inl ⟨D, _, rfl, run_takeDeferred hK', ?_⟩⟩
    have hg : W2.grownBy (W2.putObj D (.deferred none)) (some D) := grownBy_putObj' W2 D _
    have hr : ∀ r, some D = some r → ∃ o : Obj, W2.heap[r]? = some o ∧ o.isCells = false := fun r e => by cases e; exact ⟨_, hK', rfl⟩
    have hval : nv B64 zs = nv B8 xs.reverse := by rw [n1, nv_words m all HALL.out.1, HALL.out.2.2]
    refine ⟨_, results_tmp2 rfl _ _ _, v2, rfl, ⟨zs, RL.of_R (RO.own o1 hg hr), d1, hval, ?_⟩, ?_⟩
    · simp at l1
      have h80 := HP.out
      omega
    · exact hb.grown hg hb.size (fun k e => by cases e; have := EE.out; have := HW1.out.size; omega)
  case stop => exact fun _ _ _ _ _ _ h _ => h.elim

set_option maxRecDepth 100000 in
theorem frombytes_long (v : Value) (xs : List Int) (w : World) (hx : RL .u8 w v xs) (hl : 640 < xs.length) :
    Calls Try.prog 17 #[v] w fun e w' => e = .returned (.tuple #[.slice none 0 0, .int .i64 11]) ∧ Below w.heap.size w w' := by
  obtain ⟨A, c, rfl, hc, hC⟩ := hx
  have hm := Kd.C_max hC
  clear hC
  refine (callsIn_wide (n := 5)).1 ?_
  refine callsIn_of_wp_marks Try.func17 rfl trivial ?_ rfl
  simp only [Try.ntmps17, List.size_toArray, List.length_cons, List.length_nil, Nat.reduceAdd, Nat.reduceSub, Array.replicate_succ, Array.replicate_zero, List.push_toArray, List.append_toArray, List.nil_append, List.cons_append]
  gi_wp2_with fail
  exact ⟨_, results_tmp2 rfl _ _ _, rfl, Below.refl _ _⟩
end Go.Proofs.Ytokadjfakncdfaa
