/- The reference of layer 15: word, order, turn, mix. -/
import Derived.Test.YtokadjfakncdfaaB4
import Derived.Deep.RegionWith
import Derived.Deep.DrawnRows
import Derived.Deep.DeepCutAuto
import Derived.StillTailTactics
import Derived.Outline
set_option linter.unusedVariables false
set_option linter.unusedSimpArgs false
namespace Go.Proofs.Ytokadjfakncdfaa
open Go.RowKit Go.Proofs.YtokadjfakncdfaaW.PrintWords Go.Proofs.YtokadjfakncdfaaW.PrintLast Go.Proofs.YtokadjfakncdfaaW.PrintMore
attribute [local go_sem ↓] Go.wp_at_zero Go.wp_at_succ

theorem or_comm (k : IntKind) (a b : Int) : bits .or k a b = bits .or k b a := by
  simp only [bits, BitVec.or_comm]

theorem word15_calls (i : Nat) (hi : i < 8) (w : World) :
    Calls Try.prog 56 #[.int .i64 i] w fun e w' => e = .returned (.int .u32 (blkStart.getD i 0)) ∧ w' = w := by
  have h : i = 0 ∨ i = 1 ∨ i = 2 ∨ i = 3 ∨ i = 4 ∨ i = 5 ∨ i = 6 ∨ i = 7 := by omega
  rcases h with rfl | rfl | rfl | rfl | rfl | rfl | rfl | rfl
  all_goals
    go_enter Try.func56, Try.ntmps56
    go_wp2_with fail
    go_ret
    exact ⟨rfl, rfl⟩

theorem turn16 (x : Int) (w : World) :
    Calls Try.prog 115 #[.int .u32 x, .int .i64 16] w fun e w' => e = .returned (.int .u32 (rr 16 x)) ∧ ∃ k, w' = w.drewN k := by
  have hw : IntKind.i64.wrap (32 - 16) = 16 := by decide
  unfold rr
  rw [or_comm]
  go_enter Try.func115, Try.ntmps115
  go_wp2_with fail
  go_quiet (fail)
  go_wp2_with fail
  go_ret
  exact ⟨rfl, _, rfl⟩
theorem turn12 (x : Int) (w : World) :
    Calls Try.prog 115 #[.int .u32 x, .int .i64 12] w fun e w' => e = .returned (.int .u32 (rr 12 x)) ∧ ∃ k, w' = w.drewN k := by
  have hw : IntKind.i64.wrap (32 - 12) = 20 := by decide
  unfold rr
  rw [or_comm]
  go_enter Try.func115, Try.ntmps115
  go_wp2_with fail
  go_quiet (fail)
  go_wp2_with fail
  go_ret
  exact ⟨rfl, _, rfl⟩
theorem turn8 (x : Int) (w : World) :
    Calls Try.prog 115 #[.int .u32 x, .int .i64 8] w fun e w' => e = .returned (.int .u32 (rr 8 x)) ∧ ∃ k, w' = w.drewN k := by
  have hw : IntKind.i64.wrap (32 - 8) = 24 := by decide
  unfold rr
  rw [or_comm]
  go_enter Try.func115, Try.ntmps115
  go_wp2_with fail
  go_quiet (fail)
  go_wp2_with fail
  go_ret
  exact ⟨rfl, _, rfl⟩
theorem turn7 (x : Int) (w : World) :
    Calls Try.prog 115 #[.int .u32 x, .int .i64 7] w fun e w' => e = .returned (.int .u32 (rr 7 x)) ∧ ∃ k, w' = w.drewN k := by
  have hw : IntKind.i64.wrap (32 - 7) = 25 := by decide
  unfold rr
  rw [or_comm]
  go_enter Try.func115, Try.ntmps115
  go_wp2_with fail
  go_quiet (fail)
  go_wp2_with fail
  go_ret
  exact ⟨rfl, _, rfl⟩

/-- Where mixing stands: the sixteen words in a row of the call's own. -/
structure MS (w W : World) (base : Nat) (ok : Nat → Prop) (g cap : Nat) (v : List Int) : Prop where
  R : Kd.R (Kd.int .u32) 75 W base ok (.slice (some ⟨g, 0, none⟩) 16 cap) v
  G : w.grownBy W (some g)
theorem MS.cell {w W : World} {base : Nat} {ok : Nat → Prop} {g cap : Nat} {v : List Int} (h : MS w W base ok g cap v) (i : Nat) (hi : i < 16) : W.cell? ⟨g, i, none⟩ = some (.int .u32 (v.getD i 0)) := by
  have := (Kd.R_celln 0 h.R (i : Int) (by omega) (by omega)).1
  rw [Int.toNat_natCast] at this
  exact this
theorem MS.free {w W : World} {base : Nat} {ok : Nat → Prop} {g cap : Nat} {v : List Int} (h : MS w W base ok g cap v) (i : Nat) (hi : i < 16) : W.frozen? ⟨g, i, none⟩ = false := by
  have := (Kd.R_celln 0 h.R (i : Int) (by omega) (by omega)).2
  rw [Int.toNat_natCast] at this
  exact this
theorem MS.drewN {w W : World} {base : Nat} {ok : Nat → Prop} {g cap : Nat} {v : List Int} (h : MS w W base ok g cap v) (n : Nat) : MS w (W.drewN n) base ok g cap v := ⟨Kd.R_below h.R (pw_below_drewN (Below.refl _ _) n), ⟨h.G.os, h.G.tape, h.G.output, h.G.size, h.G.block⟩⟩
theorem MS.drew {w W : World} {base : Nat} {ok : Nat → Prop} {g cap : Nat} {v : List Int} (h : MS w W base ok g cap v) : MS w W.drew base ok g cap v := ⟨Kd.R_below h.R (below_drew (Below.refl _ _)), ⟨h.G.os, h.G.tape, h.G.output, h.G.size, h.G.block⟩⟩
theorem MS.set {w W : World} {base : Nat} {ok : Nat → Prop} {g cap : Nat} {v : List Int} (h : MS w W base ok g cap v) (i : Nat) (x : Int) : MS w (W.setCell ⟨g, i, none⟩ (.int .u32 x)) base ok g cap (v.set i x) := by
  have := Kd.R_putg h.R (i : Int) x
  rw [Int.toNat_natCast] at this
  exact ⟨this.1, h.G.trans this.2⟩
theorem add_three (a b x : Int) : IntKind.u32.wrap (IntKind.u32.wrap (a + b) + x) = ad a (ad b x) := by
  rw [IntKind.wrap_u32, IntKind.wrap_u32]
  unfold ad
  omega

set_option maxRecDepth 100000 in
set_option maxHeartbeats 2000000 in
theorem mix_calls (a b c d : Nat) (ha : a < 16) (hb : b < 16) (hc : c < 16) (hd : d < 16) (x y : Int) (v : List Int) (base : Nat) (ok : Nat → Prop) (g cap : Nat) (w : World) (hR : Kd.R (Kd.int .u32) 75 w base ok (.slice (some ⟨g, 0, none⟩) 16 cap) v) :
    Calls Try.prog 103 #[.slice (some ⟨g, 0, none⟩) 16 cap, .int .i64 a, .int .i64 b, .int .i64 c, .int .i64 d, .int .u32 x, .int .u32 y] w fun e w' => e = .returned (.tuple #[]) ∧ Kd.R (Kd.int .u32) 75 w' base ok (.slice (some ⟨g, 0, none⟩) 16 cap) (half (half v a b c d x 16 12) a b c d y 8 7) ∧ w.grownBy w' (some g) := by
  have ia : (a : Int) < 16 := by omega
  have ib : (b : Int) < 16 := by omega
  have ic : (c : Int) < 16 := by omega
  have id : (d : Int) < 16 := by omega
  have T0 : Aside0 (MS w w base ok g cap v) := ⟨hR, ⟨rfl, rfl, rfl, Nat.le_refl _, fun _ _ _ => rfl⟩⟩
  clear hR
  go_enter Try.func103, Try.ntmps103
  go_wp2_with fail
  have c0 := T0.out.cell a ha
  have c1 := T0.out.cell b hb
  obtain ⟨y0, hy0⟩ : ∃ y, v.getD a 0 = y := ⟨_, rfl⟩
  obtain ⟨y1, hy1⟩ : ∃ y, v.getD b 0 = y := ⟨_, rfl⟩
  rw [hy0] at c0
  rw [hy1] at c1
  obtain ⟨z, hz⟩ : ∃ z, IntKind.u32.wrap (IntKind.u32.wrap (y0 + y1) + x) = z := ⟨_, rfl⟩
  obtain ⟨v1, hv0⟩ : ∃ v', q1 v a b x = v' := ⟨_, rfl⟩
  have e0 : Aside0 (v.set a z = v1) := ⟨by rw [← hv0, ← hz, add_three, ← hy0, ← hy1]; rfl⟩
  have E0 := Aside0.mk hv0
  clear hy0 hy1 hv0
  go_still_tail 14, (by kernel_rfl)
  change wpList _ _ _ _ _ w.drew
  obtain ⟨W1, hW1⟩ : ∃ W', w.drew = W' := ⟨_, rfl⟩
  rw [hW1]
  have D0 : MS w W1 base ok g cap v := hW1 ▸ T0.out.drew
  have c2 := D0.cell a ha
  have f2 := D0.free a ha
  have HD0 := Aside0.mk D0
  clear hW1 D0 c0 c1 hz T0
  go_wp2_with fail
  obtain ⟨W1b, hW1b⟩ : ∃ W', W1.setCell ⟨g, a, none⟩ (.int .u32 z) = W' := ⟨_, rfl⟩
  rw [hW1b]
  have T1 : Aside0 (MS w W1b base ok g cap v1) := ⟨hW1b ▸ e0.out ▸ HD0.out.set a z⟩
  clear hW1b HD0 c2 f2 e0
  go_upto_region 1 with fail
  obtain ⟨v2, hv1⟩ : ∃ v', q2 v1 a d 16 = v' := ⟨_, rfl⟩
  have E1 := Aside0.mk hv1
  go_cut [] from 28 (fun wx => Aside0 (MS w wx base ok g cap v2))
  case first =>
    have c0 := T1.out.cell d hd
    have c1 := T1.out.cell a ha
    obtain ⟨y0, hy0⟩ : ∃ y, v1.getD d 0 = y := ⟨_, rfl⟩
    obtain ⟨y1, hy1⟩ : ∃ y, v1.getD a 0 = y := ⟨_, rfl⟩
    rw [hy0] at c0
    rw [hy1] at c1
    obtain ⟨z, hz⟩ : ∃ z, bits .xor .u32 y0 y1 = z := ⟨_, rfl⟩
    have e1 : Aside0 (v1.set d (rr 16 z) = v2) := ⟨by rw [← hv1, ← hz, ← hy0, ← hy1]; rfl⟩
    have f0 := T1.out.free d hd
    clear hy0 hy1 hv1
    go_region_with (go_at_call 115; refine (turn16 z _).mono ?_; rintro e w' ⟨rfl, k, rfl⟩)
    all_goals
      go_wp2_with fail
      go_meet
      exact ⟨e1.out ▸ (T1.out.drewN _).set d (rr 16 z)⟩
  case rest =>
  have T2 := hcut
  clear hcut hv1 T1
  obtain ⟨X1, hX1⟩ : ∃ X, wc = X := ⟨_, rfl⟩
  subst hX1
  go_wp2_with fail
  have c0 := T2.out.cell c hc
  have c1 := T2.out.cell d hd
  obtain ⟨y0, hy0⟩ : ∃ y, v2.getD c 0 = y := ⟨_, rfl⟩
  obtain ⟨y1, hy1⟩ : ∃ y, v2.getD d 0 = y := ⟨_, rfl⟩
  rw [hy0] at c0
  rw [hy1] at c1
  obtain ⟨z, hz⟩ : ∃ z, IntKind.u32.wrap (y0 + y1) = z := ⟨_, rfl⟩
  obtain ⟨v3, hv2⟩ : ∃ v', q3 v2 c d = v' := ⟨_, rfl⟩
  have e2 : Aside0 (v2.set c z = v3) := ⟨by rw [← hv2, ← hz, IntKind.wrap_u32, ← hy0, ← hy1]; rfl⟩
  have E2 := Aside0.mk hv2
  clear hy0 hy1 hv2
  go_still_tail 12, (by kernel_rfl)
  change wpList _ _ _ _ _ wc.drew
  obtain ⟨W3, hW3⟩ : ∃ W', wc.drew = W' := ⟨_, rfl⟩
  rw [hW3]
  have D2 : MS w W3 base ok g cap v2 := hW3 ▸ T2.out.drew
  have c2 := D2.cell c hc
  have f2 := D2.free c hc
  have HD2 := Aside0.mk D2
  clear hW3 D2 c0 c1 hz T2
  go_wp2_with fail
  obtain ⟨W3b, hW3b⟩ : ∃ W', W3.setCell ⟨g, c, none⟩ (.int .u32 z) = W' := ⟨_, rfl⟩
  rw [hW3b]
  have T3 : Aside0 (MS w W3b base ok g cap v3) := ⟨hW3b ▸ e2.out ▸ HD2.out.set c z⟩
  clear hW3b HD2 c2 f2 e2
  go_upto_region 3 with fail
  obtain ⟨v4, hv3⟩ : ∃ v', q2 v3 c b 12 = v' := ⟨_, rfl⟩
  have E3 := Aside0.mk hv3
  go_cut [] from 53 (fun wx => Aside0 (MS w wx base ok g cap v4))
  case first =>
    have c0 := T3.out.cell b hb
    have c1 := T3.out.cell c hc
    obtain ⟨y0, hy0⟩ : ∃ y, v3.getD b 0 = y := ⟨_, rfl⟩
    obtain ⟨y1, hy1⟩ : ∃ y, v3.getD c 0 = y := ⟨_, rfl⟩
    rw [hy0] at c0
    rw [hy1] at c1
    obtain ⟨z, hz⟩ : ∃ z, bits .xor .u32 y0 y1 = z := ⟨_, rfl⟩
    have e3 : Aside0 (v3.set b (rr 12 z) = v4) := ⟨by rw [← hv3, ← hz, ← hy0, ← hy1]; rfl⟩
    have f0 := T3.out.free b hb
    clear hy0 hy1 hv3
    go_region_with (go_at_call 115; refine (turn12 z _).mono ?_; rintro e w' ⟨rfl, k, rfl⟩)
    all_goals
      go_wp2_with fail
      go_meet
      exact ⟨e3.out ▸ (T3.out.drewN _).set b (rr 12 z)⟩
  case rest =>
  have T4 := hcut
  clear hcut hv3 T3
  obtain ⟨X3, hX3⟩ : ∃ X, wc = X := ⟨_, rfl⟩
  subst hX3
  go_wp2_with fail
  have c0 := T4.out.cell a ha
  have c1 := T4.out.cell b hb
  obtain ⟨y0, hy0⟩ : ∃ y, v4.getD a 0 = y := ⟨_, rfl⟩
  obtain ⟨y1, hy1⟩ : ∃ y, v4.getD b 0 = y := ⟨_, rfl⟩
  rw [hy0] at c0
  rw [hy1] at c1
  obtain ⟨z, hz⟩ : ∃ z, IntKind.u32.wrap (IntKind.u32.wrap (y0 + y1) + y) = z := ⟨_, rfl⟩
  obtain ⟨v5, hv4⟩ : ∃ v', q1 v4 a b y = v' := ⟨_, rfl⟩
  have e4 : Aside0 (v4.set a z = v5) := ⟨by rw [← hv4, ← hz, add_three, ← hy0, ← hy1]; rfl⟩
  have E4 := Aside0.mk hv4
  clear hy0 hy1 hv4
  go_still_tail 14, (by kernel_rfl)
  change wpList _ _ _ _ _ wc.drew
  obtain ⟨W5, hW5⟩ : ∃ W', wc.drew = W' := ⟨_, rfl⟩
  rw [hW5]
  have D4 : MS w W5 base ok g cap v4 := hW5 ▸ T4.out.drew
  have c2 := D4.cell a ha
  have f2 := D4.free a ha
  have HD4 := Aside0.mk D4
  clear hW5 D4 c0 c1 hz T4
  go_wp2_with fail
  obtain ⟨W5b, hW5b⟩ : ∃ W', W5.setCell ⟨g, a, none⟩ (.int .u32 z) = W' := ⟨_, rfl⟩
  rw [hW5b]
  have T5 : Aside0 (MS w W5b base ok g cap v5) := ⟨hW5b ▸ e4.out ▸ HD4.out.set a z⟩
  clear hW5b HD4 c2 f2 e4
  go_upto_region 5 with fail
  obtain ⟨v6, hv5⟩ : ∃ v', q2 v5 a d 8 = v' := ⟨_, rfl⟩
  have E5 := Aside0.mk hv5
  go_cut [] from 80 (fun wx => Aside0 (MS w wx base ok g cap v6))
  case first =>
    have c0 := T5.out.cell d hd
    have c1 := T5.out.cell a ha
    obtain ⟨y0, hy0⟩ : ∃ y, v5.getD d 0 = y := ⟨_, rfl⟩
    obtain ⟨y1, hy1⟩ : ∃ y, v5.getD a 0 = y := ⟨_, rfl⟩
    rw [hy0] at c0
    rw [hy1] at c1
    obtain ⟨z, hz⟩ : ∃ z, bits .xor .u32 y0 y1 = z := ⟨_, rfl⟩
    have e5 : Aside0 (v5.set d (rr 8 z) = v6) := ⟨by rw [← hv5, ← hz, ← hy0, ← hy1]; rfl⟩
    have f0 := T5.out.free d hd
    clear hy0 hy1 hv5
    go_region_with (go_at_call 115; refine (turn8 z _).mono ?_; rintro e w' ⟨rfl, k, rfl⟩)
    all_goals
      go_wp2_with fail
      go_meet
      exact ⟨e5.out ▸ (T5.out.drewN _).set d (rr 8 z)⟩
  case rest =>
  have T6 := hcut
  clear hcut hv5 T5
  obtain ⟨X5, hX5⟩ : ∃ X, wc = X := ⟨_, rfl⟩
  subst hX5
  go_wp2_with fail
  have c0 := T6.out.cell c hc
  have c1 := T6.out.cell d hd
  obtain ⟨y0, hy0⟩ : ∃ y, v6.getD c 0 = y := ⟨_, rfl⟩
  obtain ⟨y1, hy1⟩ : ∃ y, v6.getD d 0 = y := ⟨_, rfl⟩
  rw [hy0] at c0
  rw [hy1] at c1
  obtain ⟨z, hz⟩ : ∃ z, IntKind.u32.wrap (y0 + y1) = z := ⟨_, rfl⟩
  obtain ⟨v7, hv6⟩ : ∃ v', q3 v6 c d = v' := ⟨_, rfl⟩
  have e6 : Aside0 (v6.set c z = v7) := ⟨by rw [← hv6, ← hz, IntKind.wrap_u32, ← hy0, ← hy1]; rfl⟩
  have E6 := Aside0.mk hv6
  clear hy0 hy1 hv6
  go_still_tail 12, (by kernel_rfl)
  change wpList _ _ _ _ _ wc.drew
  obtain ⟨W7, hW7⟩ : ∃ W', wc.drew = W' := ⟨_, rfl⟩
  rw [hW7]
  have D6 : MS w W7 base ok g cap v6 := hW7 ▸ T6.out.drew
  have c2 := D6.cell c hc
  have f2 := D6.free c hc
  have HD6 := Aside0.mk D6
  clear hW7 D6 c0 c1 hz T6
  go_wp2_with fail
  obtain ⟨W7b, hW7b⟩ : ∃ W', W7.setCell ⟨g, c, none⟩ (.int .u32 z) = W' := ⟨_, rfl⟩
  rw [hW7b]
  have T7 : Aside0 (MS w W7b base ok g cap v7) := ⟨hW7b ▸ e6.out ▸ HD6.out.set c z⟩
  clear hW7b HD6 c2 f2 e6
  go_upto_region 7 with fail
  obtain ⟨v8, hv7⟩ : ∃ v', q2 v7 c b 7 = v' := ⟨_, rfl⟩
  have E7 := Aside0.mk hv7
  have c0 := T7.out.cell b hb
  have c1 := T7.out.cell c hc
  obtain ⟨y0, hy0⟩ : ∃ y, v7.getD b 0 = y := ⟨_, rfl⟩
  obtain ⟨y1, hy1⟩ : ∃ y, v7.getD c 0 = y := ⟨_, rfl⟩
  rw [hy0] at c0
  rw [hy1] at c1
  obtain ⟨z, hz⟩ : ∃ z, bits .xor .u32 y0 y1 = z := ⟨_, rfl⟩
  have e7 : Aside0 (v7.set b (rr 7 z) = v8) := ⟨by rw [← hv7, ← hz, ← hy0, ← hy1]; rfl⟩
  have f0 := T7.out.free b hb
  clear hy0 hy1 hv7
  go_region_with (go_at_call 115; refine (turn7 z _).mono ?_; rintro e w' ⟨rfl, k, rfl⟩)
  all_goals
    go_wp2_with fail
    go_end0
    have h : half (half v a b c d x 16 12) a b c d y 8 7 = v8 := by
      unfold half
      rw [E0.out, E1.out, E2.out, E3.out, E4.out, E5.out, E6.out, E7.out]
    rw [h]
    have T8 := fun n => (T7.out.drewN n).set b (rr 7 z)
    rw [e7.out] at T8
    exact ⟨rfl, (T8 _).R, (T8 _).G⟩
end Go.Proofs.Ytokadjfakncdfaa
