/- blake: the blocks of bytes, one behind the other. -/
import Derived.Test.YtokadjfakncdfaaGB
import Derived.Test.YtokadjfakncdfaaB4
import Derived.Test.YtokadjfakncdfaaB6
import Derived.RegionIn
set_option linter.unusedVariables false
set_option linter.unusedSimpArgs false
namespace Go.Proofs.Ytokadjfakncdfaa
open Go.RowKit Go.Proofs.YtokadjfakncdfaaW.PrintWords Go.Proofs.YtokadjfakncdfaaW.PrintLast Go.Proofs.YtokadjfakncdfaaW.PrintMore
attribute [local go_sem] Oper.semAt_some
attribute [local go_sem] min2_int

theorem size5 : (Try.prog.info? 5).map (·.size) = some 1 := by kernel_rfl
theorem info5i : ∃ i, Try.prog.info? 5 = some i ∧ i.size = 1 := by
  have := size5
  cases h : Try.prog.info? 5 with
  | none => rw [h] at this; cases this
  | some i => exact ⟨i, rfl, by rw [h] at this; simpa using this⟩

/-- Bytes are copied to the head of a block of 64. -/
theorem copy_bytes {W : World} {gd : Nat} {A : Option Addr} {c : Nat} {ys : List Int} (hd : W.heap[gd]? = some (.cells (w8 (List.replicate 64 0)) 5 (0, 0))) (hC : (Kd.int .u8).C W A ys.length ys) (hl : ys.length ≤ 64) (ty : TypeId) :
    ∃ W', (Builtin.copy_ #[22, 22] ty #[.slice (some ⟨gd, 0, none⟩) 64 64, .slice A ys.length c]).run Try.prog W = .ok (.int .i64 (ys.length : Int)) W' ∧ W'.heap[gd]? = some (.cells (w8 (ys ++ List.replicate (64 - ys.length) 0)) 5 (0, 0)) ∧ Below gd W W' := by
  rcases Nat.eq_zero_or_pos ys.length with h0 | h0
  · obtain rfl := List.eq_nil_of_length_eq_zero h0
    exact ⟨W, run_copy_none W 22 22 ty 5 (some ⟨gd, 0, none⟩) A 64 64 0 c Try.underlying22 size5 rfl, by simpa using hd, Below.refl _ _⟩
  · obtain ⟨ad, rfl, _⟩ := C_cell hC 0 h0
    have h := run_copy_row (P := Try.prog) W 22 22 ty 5 gd 0 64 64 ad ys.length c (w8 (List.replicate 64 0)) 5 (ys.map (Value.int .u8)) Try.underlying22 size5 hd (by rw [List.length_map]; exact (Nat.min_eq_left hl).symm)
      (fun j v hv => by
        have hj : j < ys.length := by
          rcases Nat.lt_or_ge j ys.length with h | h
          · exact h
          · rw [List.getElem?_eq_none (by simpa using h)] at hv; cases hv
        obtain ⟨ad', e, hc⟩ := C_cell hC j hj
        cases e
        rw [hc]
        rw [List.getElem?_map, List.getElem?_eq_getElem hj] at hv
        rw [← hv, List.getD_eq_getElem?_getD, List.getElem?_eq_getElem hj]
        rfl) (by simp [w8]; omega) (fun v hv => by
        obtain ⟨x, _, rfl⟩ := List.mem_map.1 hv
        rfl)
    refine ⟨_, by rw [h, List.length_map]; rfl, ?_, below_setRow (Below.refl _ _) (Nat.le_refl _) _⟩
    rw [setRow_heap W gd _ _ 5 (0, 0) hd]
    simp only [w8, List.map_append, List.map_replicate, List.take_zero, List.nil_append, List.drop_replicate, Nat.zero_add, List.length_map]

set_option maxRecDepth 100000 in
theorem blocks_calls (A : Option Addr) (m c : Nat) (w : World) :
    Calls Try.prog 54 #[.slice A m c] w fun e w' => e = .returned (.func (.func 96) #[] #[.pointer (some ⟨w.heap.size, 0, none⟩)]) ∧ w' = w.alloc (.cells #[.slice A m c] 22) := by
  go_enter Try.func54, Try.ntmps54
  go_wp2_with fail
  go_ret
  exact ⟨rfl, rfl⟩

/-- What a block hands on. -/
def blkEnc (all : List Int) (x : Nat × Nat) : Array Value := #[.int .i64 (takenAt all x.1), .slice (some ⟨x.2, 0, none⟩) 64 64]
/-- How the memory lies when a block is handed on. -/
def blkRd (all : List Int) (pre : List (Nat × Nat)) (x : Nat × Nat) (W : World) : Prop := x.1 = pre.length ∧ x.1 < blockN all ∧ W.heap[x.2]? = some (.cells (w8 (blockAt all x.1)) 5 (0, 0))
/-- What a round keeps: all that lay when the iterator began, but for one block. -/
def blkKp (N hb : Nat) (A B : World) : Prop := A.heap.size ≤ B.heap.size ∧ ∀ i, i < N → i ≠ hb → B.heap[i]? = A.heap[i]?
theorem blkKp.trans {N hb : Nat} {A B C : World} (h : blkKp N hb A B) (k : blkKp N hb B C) : blkKp N hb A C := ⟨Nat.le_trans h.1 k.1, fun i h1 h2 => (k.2 i h1 h2).trans (h.2 i h1 h2)⟩

theorem blockN_lt (all : List Int) (k : Nat) : k < blockN all ↔ k = 0 ∨ 64 * k < all.length := by
  unfold blockN
  split
  · rename_i h; omega
  · rename_i h; omega
theorem blockAt_eq (all : List Int) (k : Nat) (hk : k < blockN all) : (all.take (takenAt all k)).drop (64 * k) ++ List.replicate (64 - ((all.take (takenAt all k)).drop (64 * k)).length) 0 = blockAt all k := by
  have h := (blockN_lt all k).1 hk
  have ht : takenAt all k = min (64 * k + 64) all.length := rfl
  have hl : ((all.take (takenAt all k)).drop (64 * k)).length = takenAt all k - 64 * k := by rw [List.length_drop, List.length_take, ht]; omega
  refine List.ext_getElem? fun i => ?_
  by_cases hi : i < 64
  · have hr : (blockAt all k)[i]? = some (all.getD (64 * k + i) 0) := by simp [blockAt, hi]
    rw [hr]
    by_cases h2 : i < takenAt all k - 64 * k
    · rw [List.getElem?_append_left (by rw [hl]; exact h2), List.getElem?_drop, List.getElem?_take, if_pos (by omega), List.getD_eq_getElem?_getD, List.getElem?_eq_getElem (by omega)]
      rfl
    · rw [List.getElem?_append_right (by rw [hl]; omega), List.getElem?_replicate, if_pos (by omega), List.getD_eq_getElem?_getD, List.getElem?_eq_none (by omega)]
      rfl
  · rw [List.getElem?_eq_none (by simp [hl]; omega), List.getElem?_eq_none (by simp [blockAt]; omega)]

theorem mk64 (W : World) : (Instr.makeSlice 22 (.int .i64 64) (.int .i64 64)).run Try.prog W = .ok (.slice (some ⟨W.heap.size, 0, none⟩) 64 64) (W.alloc (.cells (w8 (List.replicate 64 0)) 5)) := by kernel_rfl
/-- The copy, held together. -/
def CopO (ats : Array TypeId) (ty : TypeId) (args : Array Value) : Sem Value := Builtin.copy_ ats ty args
theorem copO_builtin (ats : Array TypeId) (ty : TypeId) (cs : Array Bool) (args : Array Value) : builtin .copy ats ty cs args = (do pure (.value (← CopO ats ty args))) := rfl
attribute [local go_sem ↓ high] copO_builtin

set_option maxRecDepth 100000 in
set_option maxHeartbeats 4000000 in
theorem blocks1_seq (n : Nat) (hn : 1 ≤ n) (all : List Int) (A : Option Addr) (c : Nat) (w : World) (Bs hb base : Nat) (hB : w.heap[Bs]? = some (.cells #[.slice A all.length c] 22 (0, 0))) (hne : Bs ≠ hb)
    (hR : Kd.R (Kd.int .u8) 5 w base (fun k => k < w.heap.size ∧ k ≠ hb) (.slice A all.length c) all) (hl : all.length ≤ 100000) :
    SeqRd Fence.wide n Try.prog 96 #[.pointer (some ⟨Bs, 0, none⟩)] (blkEnc all) (blkRd all) (blkKp w.heap.size hb) (fun xs => xs.map (·.1) = List.range (blockN all)) w := fun l J W hW hJ hY h0 => by
  have hBs := lt_of_block hB
  have HB := Aside0.mk hB
  have HR := Aside0.mk hR
  have H0 := Aside0.mk h0
  have HY := Aside0.mk hY
  have HJ := Aside0.mk hJ
  have HAg : Aside0 (blkKp w.heap.size hb w W) := ⟨hW.size, fun i h1 _ => hW.block i h1⟩
  obtain ⟨N, hN⟩ : ∃ N, w.heap.size = N := ⟨_, rfl⟩
  have HN := Aside0.mk hN
  have hNW : N ≤ W.heap.size := hN ▸ hW.size
  rw [hN] at hBs HAg
  have hbn : blockN all ≤ 100000 := by unfold blockN; split <;> omega
  clear h0 hJ hY hW hB hR hN
  refine callsIn_of_wp Try.func96 rfl trivial ?_ rfl
  simp only [Try.ntmps96, List.size_toArray, List.length_cons, List.length_nil, Nat.reduceAdd, Nat.reduceSub, Array.replicate_succ, Array.replicate_zero, List.push_toArray, List.append_toArray, List.nil_append, List.cons_append]
  gi_wp2_with fail
  gi_loopw [3] (fun v3 wr => ∃ (k K : Nat) (xs : List (Nat × Nat)), v3 = .int .i64 (K : Int) ∧ K = 64 * k ∧ k ≤ blockN all ∧ Aside0 (xs.map (·.1) = List.range k) ∧ Aside0 (J xs wr) ∧ Aside0 (blkKp N hb w wr) ∧ N ≤ wr.heap.size) (fun v3 _ => 64 * blockN all + 64 - (intOf v3).toNat)
  case atStart => exact ⟨0, 0, [], rfl, rfl, Nat.zero_le _, ⟨rfl⟩, H0, HAg, hNW⟩
  case round =>
    clear H0 HAg
    obtain ⟨k, K, xs, rfl, hK, hk, HXS, HJ1, HAg, hsz⟩ := hrel
    have hc0 : wr.cell? ⟨Bs, 0, none⟩ = some (.slice A all.length c) := cell_of_one ((HAg.out.2 Bs hBs hne).trans HB.out)
    by_cases hlt : k < blockN all
    · have hlt' := (blockN_lt all k).1 hlt
      have hlt2 : K = 0 ∨ K < all.length := by omega
      have hKl : K ≤ all.length := by omega
      obtain ⟨T, hT⟩ : ∃ T, takenAt all k = T := ⟨_, rfl⟩
      have hT1 : T = min (K + 64) all.length := by rw [← hT, hK]; rfl
      have hmin : min ((K : Int) + 64) (all.length : Int) = (T : Int) := by omega
      have hKT : K ≤ T := by omega
      have hTl : T ≤ all.length := by omega
      have hcl : all.length ≤ c := by
        obtain ⟨A', c', he, h, _⟩ := Kd.R_reads HR.out
        cases he
        exact h
      obtain ⟨i5, hi5, hs5⟩ := info5i
      obtain ⟨A', hrun, hread, hle⟩ := print_mid_of (P := Try.prog) (Value.int .u8) 0 22 5 .i64 .i64 Try.underlying22 hi5 hs5 A c all (K : Int) (T : Int) (by omega) (by omega) (by omega) hcl
      obtain ⟨ys, hys⟩ : ∃ ys, (all.take (T : Int).toNat).drop (K : Int).toNat = ys := ⟨_, rfl⟩
      obtain ⟨c', hc'⟩ : ∃ c', c - (K : Int).toNat = c' := ⟨_, rfl⟩
      rw [hys, hc'] at hrun
      rw [hys] at hread
      have hyl : ys.length ≤ 64 := by
        rw [← hys, List.length_drop, List.length_take]
        omega
      have hAll : Kd.R (Kd.int .u8) 5 wr base (fun k => k < w.heap.size ∧ k ≠ hb) (.slice A all.length c) all := Kd.R_move HR.out (fun k hk => HAg.out.2 k (HN.out ▸ hk.1) hk.2)
      have hCall : (Kd.int .u8).C wr A all.length all := by
        obtain ⟨A2, c2, he, _, h⟩ := Kd.R_reads hAll
        cases he
        exact h
      have hC0 : (Kd.int .u8).C wr A' ys.length ys := Kd.C_of_reads (d := (0 : Int)) (h1 := fun _ => rfl) (hread wr (Kd.reads_of_C hCall))
      obtain ⟨gd, hgd⟩ : ∃ gd, wr.heap.size = gd := ⟨_, rfl⟩
      have hmk := mk64 wr
      obtain ⟨W2, hW2⟩ : ∃ W2, wr.alloc (.cells (w8 (List.replicate 64 0)) 5) = W2 := ⟨_, rfl⟩
      have hb2 : Below N wr W2 := by rw [← hW2]; exact ((Below.refl wr.heap.size wr).alloc (Nat.le_refl _) _).mono hsz
      have hB2 : Below wr.heap.size wr W2 := by rw [← hW2]; exact (Below.refl wr.heap.size wr).alloc (Nat.le_refl _) _
      have hd2 : W2.heap[gd]? = some (.cells (w8 (List.replicate 64 0)) 5 (0, 0)) := by rw [← hW2, ← hgd]; exact heap_alloc_new wr _
      rw [hW2, hgd] at hmk
      obtain ⟨W3, hcp, hd3, hb3⟩ := copy_bytes (c := c') hd2 (Kd.C_below hC0 hB2) hyl 3
      have hcp' : (CopO #[22, 22] 3 #[.slice (some ⟨gd, 0, none⟩) 64 64, .slice A' ys.length c']).run Try.prog W2 = .ok (.int .i64 (ys.length : Int)) W3 := hcp
      have hc2 : W2.cell? ⟨Bs, 0, none⟩ = some (.slice A all.length c) := cell_of_one ((hb2.block Bs hBs).trans ((HAg.out.2 Bs hBs hne).trans HB.out))
      have hB3 : Below wr.heap.size wr W3 := hB2.trans (hb3.mono (by omega))
      have hrd : blkRd all xs (k, gd) W3 := by
        refine ⟨?_, hlt, ?_⟩
        · have := congrArg List.length HXS.out
          simpa using this.symm
        · rw [hd3]
          have := blockAt_eq all k hlt
          rw [hT, ← hK] at this
          rw [← hys]
          simp only [Int.toNat_natCast]
          rw [this]
      have HRD := Aside0.mk hrd
      have hJ3 : J xs W3 := HJ.out xs wr W3 none HJ1.out (grown_of_below hB3 none) (fun r e => by cases e)
      have HJ3 := Aside0.mk hJ3
      have HAg3 : Aside0 (blkKp N hb w W3) := ⟨HAg.out.trans ⟨hB3.size, fun i h1 _ => hB3.block i (Nat.lt_of_lt_of_le h1 hsz)⟩⟩
      obtain ⟨fn, tmps, assign, body, hy, hR⟩ := HY.out xs (k, gd) W3 hJ3 hrd
      have HRR := Aside0.mk hR
      unfold blkEnc at hy
      simp only [hT] at hy
      have HK := Aside0.mk hK
      have hsz3 : N ≤ W3.heap.size := Nat.le_trans hsz hB3.size
      have HE := Aside0.mk (And.intro hT1 hys)
      have hk0 : K = 0 ∨ (K : Int) < (all.length : Int) := by omega
      clear hK hlt' hlt2 hT hT1 hys hread hle hC0 hCall hAll hgd hW2 hb2 hB2 hd2 hcp hd3 hb3 hB3 hrd hJ3 hR HJ1 hc' hKl hcl hi5 hs5 HAg
      obtain ⟨z, hz, hz2⟩ : ∃ z : Bool, ((K : Int) == 0) = z ∧ (z = true ∨ (z = false ∧ (K : Int) < (all.length : Int))) := by
        rcases hk0 with h | h
        · exact ⟨true, by simp [h], .inl rfl⟩
        · by_cases h0 : K = 0
          · exact ⟨true, by simp [h0], .inl rfl⟩
          · exact ⟨false, by simpa using h0, .inr ⟨rfl, h⟩⟩
      clear hk0
      rcases hz2 with rfl | ⟨rfl, hz2⟩
      all_goals
        gi_wp2_with fail
        refine HRR.out.mono ?_
        rintro e W4 ⟨rfl, hJ4, hk4⟩
        have HJ4 := Aside0.mk hJ4
        have HA4 : Aside0 (blkKp N hb w W4) := ⟨HAg3.out.trans (HN.out ▸ hk4)⟩
        have hsz4 : N ≤ W4.heap.size := Nat.le_trans hsz3 hk4.1
        clear hJ4 hk4 hc0 hc2 hcp' hmk
        gi_wp2_with fail
        go_roundw
        case rel => exact ⟨k + 1, K + 64, xs ++ [(k, gd)], by go_num, by have := HK.out; omega, by omega, ⟨by rw [List.map_append, HXS.out, List.range_succ]; rfl⟩, HJ4, HA4, hsz4⟩
        case measure => simp [intOf]; have := HK.out; omega
    · obtain rfl : k = blockN all := by omega
      have hN1 := (blockN_lt all (blockN all)).2
      have hz : ((K : Int) == 0) = false := by
        have : 1 ≤ blockN all := by unfold blockN; split <;> omega
        simp; omega
      have hz2 : ¬ ((K : Int) < (all.length : Int)) := fun h => hlt (hN1 (.inr (by omega)))
      have HXS2 := HXS
      clear hN1 hK
      gi_wp2_with fail
      go_end0
      exact ⟨⟨_, rfl⟩, _, HXS2.out, HJ1.out⟩
end Go.Proofs.Ytokadjfakncdfaa
