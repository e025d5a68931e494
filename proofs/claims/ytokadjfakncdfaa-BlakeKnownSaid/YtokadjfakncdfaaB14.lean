/- The reference of layer 15: Sum. -/
import Derived.Test.YtokadjfakncdfaaB12
import Derived.Test.YtokadjfakncdfaaB13
import Derived.Test.YtokadjfakncdfaaB9
set_option linter.unusedVariables false
set_option linter.unusedSimpArgs false
namespace Go.Proofs.Ytokadjfakncdfaa
open Go.RowKit Go.Proofs.YtokadjfakncdfaaW.PrintWords Go.Proofs.YtokadjfakncdfaaW.PrintLast Go.Proofs.YtokadjfakncdfaaW.PrintMore

theorem mk16 (W : World) : (Instr.makeSlice 43 (.int .i64 16) (.int .i64 16)).run Try.prog W = .ok (.slice (some ⟨W.heap.size, 0, none⟩) 16 16) (W.alloc (.cells (w32 (List.replicate 16 0)) 75)) := by kernel_rfl
/-- Words that lie in a block. -/
theorem RL_w32 {W : World} {g e n : Nat} {fr : Nat × Nat} {xs : List Int} (h : W.heap[g]? = some (.cells (w32 xs) e fr)) (hn : xs.length = n) (hl : n ≤ 1000) : RL .u32 W (.slice (some ⟨g, 0, none⟩) n n) xs := by
  subst hn
  refine ⟨_, _, rfl, Nat.le_refl _, rfl, by omega, fun _ => ⟨_, rfl, fun j p hj => ⟨[.int .u32 p], rfl, rfl, fun i u hu => ?_⟩⟩⟩
  have hi0 : i = 0 := by
    rcases Nat.eq_zero_or_pos i with h0 | h0
    · exact h0
    · rw [List.getElem?_eq_none (by simp; omega)] at hu; cases hu
  subst hi0
  have hu' : u = .int .u32 p := by simpa using hu.symm
  subst hu'
  have hw : (w32 xs)[j]? = some (.int .u32 p) := by simp [w32, hj]
  have h1 : W.cell? ⟨g, j, none⟩ = some (.int .u32 p) := by simp [World.cell?, h, hw]
  simp only [Kd.int, Kd.scalar, Nat.mul_one, Nat.add_zero, add_plain]
  exact h1
theorem rl8_cell {w W : World} {A : Option Addr} {n : Nat} {xs : List Int} (h : (Kd.int .u8).C w A n xs) (hn : xs.length = n) (b : Below w.heap.size w W) (i : Nat) (hi : i < n) : ∃ ad, A = some ad ∧ W.cell? (ad.add i) = some (.int .u8 (xs.getD i 0)) := by
  subst hn
  exact C_cell (Kd.C_below h b) i hi
theorem w8_set (v : List Int) (i : Nat) (x : Int) : (w8 v).setIfInBounds i (.int .u8 x) = w8 (v.set i x) := by
  simp [w8, List.map_set]
theorem stateAt_succ (all : List Int) (i n : Nat) (hn : blockN all = n) (hi : i < n) (b : Bool) (hb : b = ((i : Int) == (n : Int) - 1)) : takeB (stateAt all i) (words16 (blockAt all i)) (takenAt all i) b = stateAt all (i + 1) := by
  have e : b = decide (takenAt all i = all.length) := by
    rw [hb]
    unfold blockN at hn
    unfold takenAt
    by_cases h : (i : Int) = (n : Int) - 1
    · rw [show ((i : Int) == (n : Int) - 1) = true by simpa using h]
      symm
      rw [decide_eq_true_eq]
      split at hn <;> omega
    · rw [show ((i : Int) == (n : Int) - 1) = false by simpa using h]
      symm
      rw [decide_eq_false_iff_not]
      split at hn <;> omega
  rw [e]
  rfl
theorem endAt (all : List Int) (i n : Nat) (hn : blockN all = n) (hi : i < n) : (if (i : Int) < (n : Int) - 1 then 64 * ((i : Int) + 1) else (all.length : Int)) = (takenAt all i : Int) ∧ 64 * i ≤ takenAt all i := by
  unfold blockN at hn
  unfold takenAt
  constructor
  · split <;> split at hn <;> omega
  · split at hn <;> omega

set_option maxRecDepth 100000 in
set_option maxHeartbeats 4000000 in
theorem ref15_calls (v : Value) (all : List Int) (w : World) (hv : RL .u8 w v all) (hl : all.length ≤ 100000) :
    Calls Try.prog 16 #[v] w fun e w' => e = .returned (.agg (w8 (sumB all))) ∧ Below w.heap.size w w' := by
  obtain ⟨A, c, rfl, hc, hC⟩ := hv
  have HC := Aside0.mk hC
  clear hC
  go_enter Try.func16, Try.ntmps16
  go_upto_region 1 with fail
  obtain ⟨w1, hw1⟩ : ∃ W0, w.alloc (.cells #[.int .u8 0, .int .u8 0, .int .u8 0, .int .u8 0, .int .u8 0, .int .u8 0, .int .u8 0, .int .u8 0, .int .u8 0, .int .u8 0, .int .u8 0, .int .u8 0, .int .u8 0, .int .u8 0, .int .u8 0, .int .u8 0, .int .u8 0, .int .u8 0, .int .u8 0, .int .u8 0, .int .u8 0, .int .u8 0, .int .u8 0, .int .u8 0, .int .u8 0, .int .u8 0, .int .u8 0, .int .u8 0, .int .u8 0, .int .u8 0, .int .u8 0, .int .u8 0] 24) = W0 := ⟨_, rfl⟩
  obtain ⟨g, hg⟩ : ∃ g, w.heap.size = g := ⟨_, rfl⟩
  rw [hw1, hg]
  have B0 : Below g w w1 := by rw [← hw1, ← hg]; exact below_alloc (Below.refl _ _) _
  have O0 : w1.heap[g]? = some (.cells (w8 (List.replicate 32 0)) 24 (0, 0)) := by rw [← hw1, ← hg]; exact heap_alloc_new w _
  have S0 : w1.heap.size = g + 1 := by rw [← hw1, World.size_alloc, hg]
  have C0 : (Kd.int .u8).C w1 A all.length all := Kd.C_below HC.out (hg ▸ B0)
  have K0 := Aside0.mk (And.intro B0 (And.intro O0 (And.intro S0 C0)))
  clear hw1 B0 O0 S0 C0 HC
  go_wp2_with fail
  go_loopg [3, 4] 8 (fun kk v3 v4 wr => ∃ i : Nat, i + kk = 8 ∧ v4 = .int .i64 i ∧ Aside0 (R32 wr w1.heap.size v3 (blkStart.take i)) ∧ Aside0 (Below w1.heap.size w1 wr))
  case atStart => exact ⟨0, by omega, rfl, ⟨Kd.R_nil _ _ _ _ _⟩, ⟨Below.refl _ _⟩⟩
  case round =>
    obtain ⟨i, hi, rfl, HO, HW⟩ := hrel
    by_cases hlt : i < 8
    · go_wp2_with fail
      refine (word15_calls i hlt _).mono ?_
      obtain ⟨y, hy⟩ : ∃ y, blkStart.getD i 0 = y := ⟨_, rfl⟩
      rw [hy]
      rintro e w2 ⟨rfl, rfl⟩
      have HY := Aside0.mk hy
      clear hy
      go_wp2_with (at_builtin; refine Kd.R_append (Kd.int .u32) (w0 := w1) w1.heap.size rfl _ _ 43 75 (.int .u32 0) 4 rfl Try.underlying43 info75 rfl (by decide) (by decide) u3 (blkStart.take i) y [.int .u32 y] (fun b => w1.heap.size ≤ b) (fun _ => False) rfl rfl rfl (fun _ hk => hk.elim) (fun b hb => Nat.le_trans HW.out.size hb) HO.out HW.out HW.out.size (by rw [List.length_take]; omega) ?_; intro v2 w3 ho hb hg hat; have HO' := Aside0.mk ho; have HW' := Aside0.mk hb; clear ho hb hg hat)
      go_roundg (gk - 1)
      case measure => omega
      case rel => exact ⟨i + 1, by omega, by go_num, ⟨by rw [ld_take blkStart i (by simp [blkStart]; omega), HY.out]; exact HO'.out⟩, HW'⟩
    · obtain rfl : i = 8 := by omega
      clear hlt
      rw [show ((8 : Nat) : Int) = 8 from rfl]
      have ex : blkStart.take 8 = blkStart := rfl
      rw [ex] at HO
      obtain ⟨g3, c3, rfl, hg3⟩ := HO.out.own (by simp [blkStart])
      have c0 : wr.cell? ⟨g3, 0, none⟩ = some (.int .u32 1779033703) := (R32.cell HO.out 0 (by simp [blkStart])).1
      have f0 := (R32.cell HO.out 0 (by simp [blkStart])).2
      have HO1 := Aside0.mk (R32.set HO.out 0 (bits .xor .u32 1779033703 16842784))
      have l8 : blkStart.length = 8 := rfl
      obtain ⟨n, hn⟩ : ∃ n, blockN all = n := ⟨_, rfl⟩
      have HN := Aside0.mk hn
      have hn1 : 1 ≤ n ∧ n ≤ 100000 := by rw [← hn]; unfold blockN; split <;> omega
      rw [l8] at HO1 ⊢
      have HW1 := Aside0.mk (show Below w1.heap.size w1 (wr.setCell ⟨g3, 0, none⟩ (.int .u32 (bits .xor .u32 1779033703 16842784))) from HW.out.setCell (by simpa using hg3) _)
      clear ex HO HW hn
      go_upto_region 7 with fail
      obtain ⟨W1, hW1⟩ : ∃ W, wr.setCell ⟨g3, 0, none⟩ (.int .u32 (bits .xor .u32 1779033703 16842784)) = W := ⟨_, rfl⟩
      rw [hW1] at HO1 HW1 ⊢
      clear hW1 c0 f0
      obtain ⟨m, hm⟩ : ∃ m, (all.length + 63) / 64 = m := ⟨_, rfl⟩
      have q30 : ((all.length : Int) + 63) / 64 = (m : Int) := by omega
      have hmn : (if m = 0 then 1 else m) = n := by
        rw [← HN.out]
        unfold blockN
        split <;> split <;> omega
      clear hm
      go_upto_if 32 with fail
      rw [q30]
      obtain ⟨bz, hbz⟩ : ∃ b, ((m : Int) == 0) = b := ⟨_, rfl⟩
      rw [hbz]
      clear q30
      go_cut [5] from 33 (fun v5 wx => v5 = .int .i64 n ∧ W1 = wx)
      case first =>
        by_cases h0 : m = 0
        · rw [if_pos h0] at hmn
          subst h0
          obtain rfl : bz = true := by rw [← hbz]; rfl
          go_wp2_with fail
          go_meet
          exact ⟨by go_num, rfl⟩
        · rw [if_neg h0] at hmn
          have h0' : (m : Int) ≠ 0 := by omega
          obtain rfl : bz = false := by rw [← hbz]; simpa using h0'
          go_wp2_with fail
          go_meet
          exact ⟨by go_num, rfl⟩
      case rest =>
      obtain ⟨rfl, rfl⟩ := hcut
      go_wp2_with fail
      go_loopg [3, 6] n (fun kk v3 v6 wr => ∃ i : Nat, i + kk = n ∧ v6 = .int .i64 i ∧ Aside0 (R32 wr w1.heap.size v3 (stateAt all i)) ∧ Aside0 (Below w1.heap.size w1 wr))
      case atStart => exact ⟨0, by omega, rfl, HO1, HW1⟩
      case round =>
        clear HO1 HW1
        obtain ⟨i, hi, rfl, HO, HW⟩ := hrel
        by_cases hlt : i < n
        · obtain ⟨E, hE⟩ : ∃ E, takenAt all i = E := ⟨_, rfl⟩
          have hend := endAt all i n HN.out hlt
          rw [hE] at hend
          have hEl : E ≤ all.length := by rw [← hE]; exact takenAt_le _ _
          have hE64 : E ≤ 64 * i + 64 := by rw [← hE]; unfold takenAt; omega
          have HE := Aside0.mk (And.intro hend (And.intro hEl hE))
          have mk := mk16 wr
          obtain ⟨W2, hW2⟩ : ∃ W, wr.alloc (.cells (w32 (List.replicate 16 0)) 75) = W := ⟨_, rfl⟩
          obtain ⟨gm, hgm⟩ : ∃ W, wr.heap.size = W := ⟨_, rfl⟩
          have M2 := Aside0.mk (show W2.heap[gm]? = some (.cells (w32 (accW all i (64 * i - 64 * i))) 75 (0, 0)) by rw [← hW2, ← hgm, Nat.sub_self]; exact heap_alloc_new wr _)
          have B2 := Aside0.mk (show Below gm wr W2 by rw [← hW2, ← hgm]; exact below_alloc (Below.refl _ _) _)
          rw [hW2, hgm] at mk
          clear hW2 hend
          go_upto_if 44 with fail
          clear mk
          go_cut [8] from 45 to 47 (fun v8 wx => v8 = .int .i64 E ∧ W2 = wx)
          case first =>
            by_cases h0 : (i : Int) < (n : Int) - 1
            · go_wp2_with fail
              go_meet
              have he := HE.out.1.1
              rw [if_pos h0] at he
              exact ⟨by go_num, rfl⟩
            · go_wp2_with fail
              go_meet
              have he := HE.out.1.1
              rw [if_neg (by omega)] at he
              exact ⟨by go_num, rfl⟩
          case rest =>
          obtain ⟨rfl, rfl⟩ := hcut
          have h64 := HE.out.1.2
          go_wp2_with fail
          go_loopg [9] (E - 64 * i) (fun kk v9 wx => ∃ j : Nat, j + kk = E ∧ v9 = .int .i64 j ∧ 64 * i ≤ j ∧ Aside0 (wx.heap[gm]? = some (.cells (w32 (accW all i (j - 64 * i))) 75 (0, 0))) ∧ Aside0 (Below gm wr wx))
          case atStart => exact ⟨64 * i, by omega, by go_num, Nat.le_refl _, M2, B2⟩
          case round =>
            clear M2 B2
            obtain ⟨j, hj, rfl, hj64, HM, HB⟩ := hrel
            by_cases hltj : j < E
            · obtain ⟨d, hd⟩ : ∃ d, j - 64 * i = d := ⟨_, rfl⟩
              have hdl : d < 64 := by omega
              have HD := Aside0.mk hd
              rw [hd] at HM
              have la := accW_length all i d
              obtain ⟨acc, hacc⟩ : ∃ l, accW all i d = l := ⟨_, rfl⟩
              have HA := Aside0.mk hacc
              rw [hacc] at HM la
              have cm := w32_cell HM.out (d / 4) (by omega)
              have hEll := HE.out.2.1
              obtain ⟨ad, rfl, cb⟩ := rl8_cell K0.out.2.2.2 rfl (HW.out.trans (HB.out.mono (by rw [← hgm]; exact HW.out.size))) j (by omega)
              obtain ⟨x, hx⟩ : ∃ x, acc.getD (d / 4) 0 = x := ⟨_, rfl⟩
              obtain ⟨y, hy⟩ : ∃ x, all.getD j 0 = x := ⟨_, rfl⟩
              rw [hx] at cm
              rw [hy] at cb
              have hjd : j = 64 * i + d := by omega
              have q57 : (j : Int).tmod 64 = (d : Int) := by rw [Int.tmod_eq_emod_of_nonneg (by omega)]; omega
              have q58 : IntKind.i64.wrap ((d : Int) / 4) = ((d / 4 : Nat) : Int) := by
                rw [IntWalk.i64_in _ (by omega)]
                omega
              obtain ⟨a, ha⟩ : ∃ a, d / 4 = a := ⟨_, rfl⟩
              have q71 : (j : Int).tmod 4 = ((d % 4 : Nat) : Int) := by rw [Int.tmod_eq_emod_of_nonneg (by omega)]; omega
              obtain ⟨b, hb⟩ : ∃ a, d % 4 = a := ⟨_, rfl⟩
              rw [ha] at cm q58 hx
              rw [hb] at q71
              have hb4 : b < 4 := by omega
              have ha16 : a < 16 := by omega
              have hbI : (b : Int) < 4 := by omega
              have haI : (a : Int) < 16 := by omega
              have q72 : IntKind.i64.wrap (8 * (b : Int)) = 8 * (b : Int) := IntWalk.i64_in _ (by omega)
              have n72 : (8 * (b : Int)).toNat = 8 * b := by omega
              have p72 : 0 ≤ 8 * (b : Int) := by omega
              have l72 : 8 * (b : Int) < 32 := by omega
              have hjI : (j : Int) < (all.length : Int) := by omega
              have HJ := Aside0.mk hjd
              have HAB := Aside0.mk (And.intro ha hb)
              clear hjd ha hb hd
              obtain ⟨z, hz⟩ : ∃ z, bits .or .u32 x (IntKind.u32.wrap (IntKind.u32.wrap y * 2 ^ (8 * b))) = z := ⟨_, rfl⟩
              have HZ := Aside0.mk (show acc.set a z = accW all i (d + 1) by
                rw [accW, HA.out, HAB.out.1, HAB.out.2, ← HJ.out, hy, hx, ← hz, IntKind.wrap_u32, IntKind.wrap_u32]
                rfl)
              clear hx hy
              go_wp2_with fail
              go_still_tail 21, (by kernel_rfl)
              change wpList _ _ _ _ _ wr.drew
              have fm := blk_frozen (show wr.drew.heap[gm]? = _ from HM.out) a
              have cm' := w32_cell (show wr.drew.heap[gm]? = _ from HM.out) a (by omega)
              have M3 := Aside0.mk (show (wr.drew.setCell ⟨gm, a, none⟩ (.int .u32 z)).heap[gm]? = some (.cells (w32 (accW all i (d + 1))) 75 (0, 0)) by
                rw [← HZ.out, ← w32_set]
                exact blk_set (show wr.drew.heap[gm]? = _ from HM.out) a _)
              have B3 := Aside0.mk (Below.setCell (below_drew HB.out) (show gm ≤ (Addr.mk gm a none).block from Nat.le_refl _) (.int .u32 z))
              clear cm cb q57 q58 q71 q72 n72 p72 l72 HM HB HZ hz
              go_wp2_with fail
              go_roundg (gk - 1)
              case measure => omega
              case rel =>
                have := HJ.out
                exact ⟨j + 1, by omega, by go_num, by omega, ⟨by rw [show j + 1 - 64 * i = d + 1 by omega]; exact M3.out⟩, B3⟩
            · obtain rfl : j = E := by omega
              have ew : accW all i (j - 64 * i) = words16 (blockAt all i) := accW_words all i _ (by rw [HE.out.2.2])
              rw [ew] at HM
              have HM2 := Aside0.mk (RL_w32 HM.out (words16_length _) (by omega))
              have HO2 := Aside0.mk ((RL.of_R HO.out).below (hgm ▸ HB.out))
              obtain ⟨lb, hlb⟩ : ∃ lb : Bool, ((i : Int) == (n : Int) - 1) = lb := ⟨_, rfl⟩
              have HST := Aside0.mk (stateAt_succ all i n HN.out hlt lb hlb.symm)
              rw [HE.out.2.2] at HST
              have hEl := HE.out.2.1
              clear ew HM
              go_wp2_with fail
              refine (block_calls (stateAt all i) (words16 (blockAt all i)) (stateAt_length _ _) (words16_length _) _ _ _ HO2.out HM2.out (j : Int) (by omega) (by omega) lb).mono ?_
              rw [HST.out]
              rintro e w5 ⟨v5, rfl, r5, b5⟩
              have hsz := HB.out.size
              have hsz2 := HW.out.size
              have R5 := Aside0.mk (Kd.R_mono (Kd.R_lower r5 (base' := w1.heap.size) (by omega)) (fun k hk => by show w1.heap.size ≤ k; omega))
              have B5 := Aside0.mk (HW.out.trans (((hgm ▸ HB.out).trans (b5.mono (by omega))).mono (by omega)))
              clear r5 b5 HM2 HO2 HST
              go_wp2_with fail
              go_roundg (n - (i + 1))
              case measure => omega
              case rel => exact ⟨i + 1, by omega, by go_num, R5, B5⟩
        · obtain rfl : i = n := by omega
          obtain ⟨s, hs⟩ : ∃ s, stateAt all i = s := ⟨_, rfl⟩
          have ls : s.length = 8 := hs ▸ stateAt_length all i
          have HS := Aside0.mk (show sumB all = outB s by rw [← hs, ← HN.out]; rfl)
          rw [hs] at HO
          obtain ⟨g4, c4, rfl, _⟩ := HO.out.own (by omega)
          rw [ls] at HO ⊢
          clear hs
          go_upto_region 23 with fail
          obtain ⟨p, hp⟩ : ∃ p, wr.heap.size = p := ⟨_, rfl⟩
          obtain ⟨W4, hW4⟩ : ∃ W4, wr.alloc (.cells #[.int .u8 0, .int .u8 0, .int .u8 0, .int .u8 0, .int .u8 0, .int .u8 0, .int .u8 0, .int .u8 0, .int .u8 0, .int .u8 0, .int .u8 0, .int .u8 0, .int .u8 0, .int .u8 0, .int .u8 0, .int .u8 0, .int .u8 0, .int .u8 0, .int .u8 0, .int .u8 0, .int .u8 0, .int .u8 0, .int .u8 0, .int .u8 0, .int .u8 0, .int .u8 0, .int .u8 0, .int .u8 0, .int .u8 0, .int .u8 0, .int .u8 0, .int .u8 0] 24) = W4 := ⟨_, rfl⟩
          rw [hW4, hp]
          have P4 := Aside0.mk (show W4.heap[p]? = some (.cells (w8 (fillTo 32 (fun j => (outB s).getD j 0) (fun _ => 0) 0)) 24 (0, 0)) by rw [← hW4, ← hp]; exact heap_alloc_new wr _)
          have B4 := Aside0.mk (show Below p wr W4 by rw [← hW4, ← hp]; exact below_alloc (Below.refl _ _) _)
          have hgp : g + 1 ≤ p := by
            have h1 := HW.out.size
            have h2 := K0.out.2.2.1
            omega
          have O4 := Aside0.mk (show wr.heap[g]? = some (.cells (w8 (List.replicate 32 0)) 24 (0, 0)) from (HW.out.block g (by have h2 := K0.out.2.2.1; omega)).trans K0.out.2.1)
          have T4 := Aside0.mk (show Below g w wr from K0.out.1.trans (HW.out.mono (by have h2 := K0.out.2.2.1; omega)))
          obtain ⟨wo, hwo⟩ : ∃ W, wr = W := ⟨_, rfl⟩
          rw [hwo] at B4 O4 T4 HO hp
          have HOP := Aside0.mk hp
          clear hW4 HW hwo hp
          go_wp2_with fail
          go_loopg [11] 32 (fun kk v11 wx => ∃ i : Nat, i + kk = 32 ∧ v11 = .int .i64 i ∧ Aside0 (wx.heap[p]? = some (.cells (w8 (fillTo 32 (fun j => (outB s).getD j 0) (fun _ => 0) i)) 24 (0, 0))) ∧ Aside0 (Below p wo wx))
          case atStart => exact ⟨0, by omega, rfl, P4, B4⟩
          case round =>
            clear P4 B4
            obtain ⟨i, hi, rfl, HP, HB⟩ := hrel
            by_cases hlt : i < 32
            · obtain ⟨a, ha⟩ : ∃ a, i / 4 = a := ⟨_, rfl⟩
              obtain ⟨b, hb⟩ : ∃ a, i % 4 = a := ⟨_, rfl⟩
              have ca := (R32.cell (Kd.R_below HO.out (by rw [HOP.out]; exact HB.out)) a (by omega)).1
              obtain ⟨y, hy⟩ : ∃ y, s.getD a 0 = y := ⟨_, rfl⟩
              rw [hy] at ca
              have q92 : (i : Int) / 4 = (a : Int) := by omega
              have q96 : (i : Int) % 4 = (b : Int) := by omega
              have hb4 : b < 4 := by omega
              have ha8 : a < 8 := by omega
              have haI : (a : Int) < 8 := by omega
              have hbI : (b : Int) < 4 := by omega
              have l97 : 8 * (b : Int) < 32 := by omega
              have n97 : (8 * (b : Int)).toNat = 8 * b := by omega
              have HAB := Aside0.mk (And.intro ha (And.intro hb hy))
              have fp := blk_frozen HP.out i
              have cp := w8_cell HP.out i (by rw [fillTo_length]; exact hlt)
              rw [fillTo_getD 32 _ _ i i hlt, if_neg (by omega)] at cp
              clear ha hb hy
              obtain ⟨z, hz⟩ : ∃ z, y / 2 ^ (8 * b) % 256 = z := ⟨_, rfl⟩
              have hzf : z = (outB s).getD i 0 := by rw [outB_getD _ _ hlt, HAB.out.1, HAB.out.2.1, HAB.out.2.2, hz]
              have P5 := Aside0.mk (show (wr.setCell ⟨p, i, none⟩ (.int .u8 z)).heap[p]? = some (.cells (w8 (fillTo 32 (fun j => (outB s).getD j 0) (fun _ => 0) (i + 1))) 24 (0, 0)) by
                rw [← fillTo_set 32 (fun j => (outB s).getD j 0) (fun _ => 0) i z hzf, ← w8_set]
                exact blk_set HP.out i _)
              have B5 := Aside0.mk (Below.setCell HB.out (show p ≤ (Addr.mk p i none).block from Nat.le_refl _) (.int .u8 z))
              have HZ := Aside0.mk hz
              clear hzf HP HB
              go_wp2_with fail
              go_roundg (gk - 1)
              case measure => omega
              case rel => exact ⟨i + 1, by omega, by go_num, P5, B5⟩
            · obtain rfl : i = 32 := by omega
              have ez : fillTo 32 (fun j => (outB s).getD j 0) (fun _ => 0) 32 = sumB all := by
                rw [fillTo_all 32, HS.out]
                refine List.ext_getElem (by simp [outB]) fun j h1 h2 => ?_
                simp [List.getD_eq_getElem?_getD, List.getElem?_eq_getElem h2]
              rw [ez] at HP
              obtain ⟨z, hz⟩ : ∃ z, sumB all = z := ⟨_, rfl⟩
              rw [hz] at HP
              have lz : z.length = 32 := by rw [← hz]; exact sumB_length _
              have HZ := Aside0.mk hz
              have OO := Aside0.mk ((HB.out.block g (by omega)).trans O4.out)
              have so : (w8 (List.replicate 32 0)).size = (w8 z).size := by simp [w8, lz]
              have SS := Aside0.mk (And.intro (w8_size z lz) so)
              clear ez hz lz so
              go_wp2_with (first | (refine wpList_load_row rfl 24 (.tmp 10) rfl p rfl 24 (w8 z) (0, 0) _ HP.out Try.underlying24 rfl SS.out.1 ?_) | (refine wpList_store_row rfl 24 (.tmp 2) (.tmp 101) rfl g (w8 z) rfl rfl 24 _ OO.out SS.out.1 SS.out.2 (w8_all z) ?_))
              refine bodyPost_ret (v := .agg (w8 z)) (results_cell_row rfl _ _ g 24 (w8 z) (0, 0) _ rfl (setRow_heap _ _ _ _ 24 _ OO.out) Try.underlying24 rfl SS.out.1) rfl ⟨by rw [HZ.out], ?_⟩
              rw [hg]
              exact below_setRow (T4.out.trans (HB.out.mono (by omega))) (Nat.le_refl _) _
end Go.Proofs.Ytokadjfakncdfaa
