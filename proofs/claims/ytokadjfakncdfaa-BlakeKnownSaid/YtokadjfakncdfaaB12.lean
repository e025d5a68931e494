/- The reference of layer 15: a block is taken. -/
import Derived.Test.YtokadjfakncdfaaGA
import Derived.Test.YtokadjfakncdfaaB10
import Derived.Test.YtokadjfakncdfaaB11
import Derived.BigQuiet
import Derived.Deep.RegionLaw
import Derived.Outline
set_option linter.unusedVariables false
set_option linter.unusedSimpArgs false
namespace Go.Proofs.Ytokadjfakncdfaa
open Go.RowKit Go.Proofs.YtokadjfakncdfaaW.PrintWords Go.Proofs.YtokadjfakncdfaaW.PrintLast Go.Proofs.YtokadjfakncdfaaW.PrintMore
theorem info75 : (Try.prog.info? 75).map (fun i => (i.zero, i.size, i.bytes)) = some (some (.int .u32 0), 1, 4) := by kernel_rfl
abbrev R32 (W : World) (base : Nat) (v : Value) (xs : List Int) : Prop := Kd.R (Kd.int .u32) 75 W base (fun b => base ≤ b) v xs

/-- The words that a row of the call's own holds, one by one. -/
theorem R32.cell {W : World} {base g n cap : Nat} {xs : List Int} (h : R32 W base (.slice (some ⟨g, 0, none⟩) n cap) xs) (i : Nat) (hi : i < n) : W.cell? ⟨g, i, none⟩ = some (.int .u32 (xs.getD i 0)) ∧ W.frozen? ⟨g, i, none⟩ = false := by
  have := Kd.R_celln 0 h (i : Int) (by omega) (by omega)
  rw [Int.toNat_natCast] at this
  exact this
theorem R32.set {W : World} {base g n cap : Nat} {xs : List Int} (h : R32 W base (.slice (some ⟨g, 0, none⟩) n cap) xs) (i : Nat) (x : Int) : R32 (W.setCell ⟨g, i, none⟩ (.int .u32 x)) base (.slice (some ⟨g, 0, none⟩) n cap) (xs.set i x) := by
  have := Kd.R_putn h (i : Int) x
  rw [Int.toNat_natCast] at this
  exact this
theorem R32.own {W : World} {base : Nat} {v : Value} {xs : List Int} (h : R32 W base v xs) (hn : 0 < xs.length) : ∃ g cap, v = .slice (some ⟨g, 0, none⟩) xs.length cap ∧ base ≤ g := by
  obtain ⟨inner, ho⟩ := Kd.R_own h
  rcases ho.2 with ⟨_, h0⟩ | ⟨g, cap, cur, hv, hb, _⟩
  · omega
  · exact ⟨g, cap, hv, hb⟩
/-- Where a block stands: the sixteen words in a row of the call's own. -/
structure BS (w W : World) (g cap : Nat) (v : List Int) : Prop where
  R : R32 W w.heap.size (.slice (some ⟨g, 0, none⟩) 16 cap) v
  B : Below w.heap.size w W
  G : w.heap.size ≤ g
theorem BS.drew {w W : World} {g cap : Nat} {v : List Int} (h : BS w W g cap v) : BS w W.drew g cap v := ⟨Kd.R_below h.R (below_drew (Below.refl _ _)), below_drew h.B, h.G⟩
theorem BS.below {w W W' : World} {g cap : Nat} {v : List Int} (h : BS w W g cap v) (b : Below W.heap.size W W') : BS w W' g cap v := ⟨Kd.R_below h.R b, h.B.trans (b.mono h.B.size), h.G⟩
theorem below_gb {a b c : World} {g : Nat} (h : Below a.heap.size a b) (k : b.grownBy c (some g)) (hg : a.heap.size ≤ g) : Below a.heap.size a c :=
  ⟨k.os.trans h.os, k.tape.trans h.tape, k.output.trans h.output, Nat.le_trans h.size k.size, fun i hi => (k.block i (Nat.lt_of_lt_of_le hi h.size) (by simp; omega)).trans (h.block i hi)⟩
theorem BS.set {w W : World} {g cap : Nat} {v : List Int} (h : BS w W g cap v) (i : Nat) (x : Int) : BS w (W.setCell ⟨g, i, none⟩ (.int .u32 x)) g cap (v.set i x) := by
  have := Kd.R_putg h.R (i : Int) x
  rw [Int.toNat_natCast] at this
  exact ⟨this.1, below_gb h.B this.2 h.G, h.G⟩
theorem BS.mixed {w W W' : World} {g cap : Nat} {v v' : List Int} (h : BS w W g cap v) (r : R32 W' w.heap.size (.slice (some ⟨g, 0, none⟩) 16 cap) v') (hg : W.grownBy W' (some g)) : BS w W' g cap v' := ⟨r, below_gb h.B hg h.G, h.G⟩
theorem ba_get (s : ByteArray) (n : Nat) (h : n < s.size) : s[n] = s.data[n]?.getD 0 := by
  have e : s.data[n]? = some s.data[n] := Array.getElem?_eq_getElem h
  rw [e]; rfl
theorem rl_cell {w W : World} {ad : Addr} {n : Nat} {xs : List Int} (h : (Kd.int .u32).C w (some ad) n xs) (hn : xs.length = n) (b : Below w.heap.size w W) (i : Nat) (hi : i < n) : W.cell? (ad.add i) = some (.int .u32 (xs.getD i 0)) := by
  subst hn
  obtain ⟨_, e, hc⟩ := C_cell (Kd.C_below h b) i hi
  cases e
  exact hc
theorem mixI (a b c d : Int) (A B C D : Nat) (ea : a = A) (eb : b = B) (ec : c = C) (ed : d = D) (ha : A < 16) (hb : B < 16) (hc : C < 16) (hd : D < 16) (x y : Int) (v : List Int) (g cap : Nat) (w w0 : World) (h : BS w0 w g cap v) :
    Calls Try.prog 103 #[.slice (some ⟨g, 0, none⟩) 16 cap, .int .i64 a, .int .i64 b, .int .i64 c, .int .i64 d, .int .u32 x, .int .u32 y] w fun e w' => e = .returned (.tuple #[]) ∧ BS w0 w' g cap (half (half v A B C D x 16 12) A B C D y 8 7) := by
  subst ea eb ec ed
  refine (mix_calls A B C D ha hb hc hd x y v _ _ g cap w h.R).mono ?_
  rintro e w' ⟨rfl, r, hg⟩
  exact ⟨rfl, h.mixed r hg⟩
theorem BS.drewN {w W : World} {g cap : Nat} {v : List Int} (h : BS w W g cap v) (n : Nat) : BS w (W.drewN n) g cap v := ⟨Kd.R_below h.R (pw_below_drewN (Below.refl _ _) n), pw_below_drewN h.B n, h.G⟩
theorem ofInt_wrap (x : BitVec IntKind.u32.bits) : BitVec.ofInt IntKind.u32.bits (IntKind.u32.wrap (x.toNat : Int)) = x := by
  rw [IntKind.wrap_u32]
  have := x.isLt
  apply BitVec.eq_of_toNat_eq
  change x.toNat < 4294967296 at this
  show (BitVec.ofInt 32 ((x.toNat : Int) % 4294967296)).toNat = _
  rw [BitVec.toNat_ofInt]
  omega
theorem xo_assoc (a b c : Int) : xo (xo a b) c = xo a (xo b c) := by
  have h (x y : Int) : BitVec.ofInt IntKind.u32.bits (xo x y) = BitVec.ofInt IntKind.u32.bits x ^^^ BitVec.ofInt IntKind.u32.bits y := ofInt_wrap _
  show IntKind.u32.wrap ((BitVec.ofInt IntKind.u32.bits (xo a b) ^^^ BitVec.ofInt IntKind.u32.bits c).toNat : Int) = IntKind.u32.wrap ((BitVec.ofInt IntKind.u32.bits a ^^^ BitVec.ofInt IntKind.u32.bits (xo b c)).toNat : Int)
  rw [h, h, BitVec.xor_assoc]
theorem BS.row {w W : World} {g cap : Nat} {v : List Int} (h : BS w W g cap v) : ∃ cur, W.heap[g]? = some (.cells cur 75 (0, 0)) ∧ ∀ i, i < 16 → cur[i]? = some (.int .u32 (v.getD i 0)) := by
  obtain ⟨inner, ho⟩ := Kd.R_own h.R
  rcases ho.2 with ⟨h0, _⟩ | ⟨g', cap', cur, hv, hb, hg, _⟩
  · cases h0
  · have e : g = g' := by injection hv with e; injection e with e; injection e
    subst e
    exact ⟨cur, hg, fun i hi => (blk_cell hg i).symm.trans (R32.cell h.R i hi).1⟩
theorem lane_lo (i : Nat) (h : i < 4) : laneAt i 0 = i % 4 ∧ laneAt i 1 = 4 + i % 4 ∧ laneAt i 2 = 8 + i % 4 ∧ laneAt i 3 = 12 + i % 4 := by
  have h' : ∀ i, i < 4 → laneAt i 0 = i % 4 ∧ laneAt i 1 = 4 + i % 4 ∧ laneAt i 2 = 8 + i % 4 ∧ laneAt i 3 = 12 + i % 4 := by decide
  exact h' i h
theorem lane_hi (i : Nat) (h : i < 8) (h4 : ¬ i < 4) : laneAt i 0 = i % 4 ∧ laneAt i 1 = 4 + (i % 4 + 1) % 4 ∧ laneAt i 2 = 8 + (i % 4 + 2) % 4 ∧ laneAt i 3 = 12 + (i % 4 + 3) % 4 := by
  have h' : ∀ i, i < 8 → ¬ i < 4 → laneAt i 0 = i % 4 ∧ laneAt i 1 = 4 + (i % 4 + 1) % 4 ∧ laneAt i 2 = 8 + (i % 4 + 2) % 4 ∧ laneAt i 3 = 12 + (i % 4 + 3) % 4 := by decide
  exact h' i h h4
theorem ld_take (l : List Int) (i : Nat) (hi : i < l.length) : l.take (i + 1) = l.take i ++ [l.getD i 0] := take_snoc' l i hi

set_option maxRecDepth 100000 in
set_option maxHeartbeats 4000000 in
theorem block_calls (h m : List Int) (hh : h.length = 8) (hm : m.length = 16) (vh vm : Value) (w : World) (Hh : RL .u32 w vh h) (Hm : RL .u32 w vm m) (t : Int) (ht : 0 ≤ t) (ht2 : t < 18446744073709551616) (last : Bool) :
    Calls Try.prog 57 #[vh, vm, .int .u64 t, .bool last] w fun e w' => ∃ v', e = .returned v' ∧ R32 w' w.heap.size v' (takeB h m t last) ∧ Below w.heap.size w w' := by
  obtain ⟨Ah, ch, rfl, hch, hCh⟩ := Hh
  obtain ⟨Am, cm, rfl, hcm, hCm⟩ := Hm
  obtain ⟨adh, rfl, _⟩ := C_cell hCh 0 (by omega)
  obtain ⟨adm, rfl, _⟩ := C_cell hCm 0 (by omega)
  have CH := Aside0.mk (show (Kd.int .u32).C w (some adh) 8 h by rw [← hh]; exact hCh)
  have CM := Aside0.mk (show (Kd.int .u32).C w (some adm) 16 m by rw [← hm]; exact hCm)
  have HL := Aside0.mk (And.intro hh hm)
  rw [hh, hm]
  rw [hh] at hch
  rw [hm] at hcm
  clear hCh hCm hh hm
  go_enter Try.func57, Try.ntmps57
  go_wp2_with (at_builtin; refine Kd.R_append_rows (Kd.int .u32) (w0 := w) w.heap.size rfl _ _ 43 75 (.int .u32 0) 4 rfl Try.underlying43 info75 rfl (by decide) (by decide) _ [] h (some adh) 8 ch (fun b => w.heap.size ≤ b) (fun _ => False) rfl rfl (Kd.R_nil _ _ _ _ _) CH.out (fun x cs h => h) (fun _ h => h.elim) (fun b hb => hb) (Below.refl _ _) (Nat.le_refl _) (by simp) ?_; intro v1 w1 ho hb hg hat; have HO := Aside0.mk (show R32 w1 w.heap.size v1 (h ++ blkStart.take 0) from by simpa using ho); have HW := Aside0.mk hb; clear ho hb hg hat)
  go_loopg [9, 10] 8 (fun kk v9 v10 wr => ∃ i : Nat, i + kk = 8 ∧ v10 = .int .i64 i ∧ Aside0 (R32 wr w.heap.size v9 (h ++ blkStart.take i)) ∧ Aside0 (Below w.heap.size w wr))
  case atStart => exact ⟨0, by omega, rfl, HO, HW⟩
  case round =>
    clear HO HW
    obtain ⟨i, hi, rfl, HO, HW⟩ := hrel
    by_cases hlt : i < 8
    · have hlen : ((h ++ blkStart.take i).length + 1) * 4 ≤ 140737488355328 := by rw [List.length_append, HL.out.1, List.length_take]; omega
      have HN := Aside0.mk hlen
      clear hlen
      go_wp2_with fail
      refine (word15_calls i hlt _).mono ?_
      obtain ⟨y, hy⟩ : ∃ y, blkStart.getD i 0 = y := ⟨_, rfl⟩
      rw [hy]
      rintro e w2 ⟨rfl, rfl⟩
      have HY := Aside0.mk hy
      clear hy
      go_wp2_with (at_builtin; go_loud (refine Kd.R_append (Kd.int .u32) (w0 := w) w.heap.size rfl _ _ 43 75 (.int .u32 0) 4 rfl Try.underlying43 info75 rfl (by decide) (by decide) u9 (h ++ blkStart.take i) y [.int .u32 y] (fun b => w.heap.size ≤ b) (fun _ => False) rfl rfl rfl (fun _ hk => hk.elim) (fun b hb => Nat.le_trans HW.out.size hb) HO.out HW.out HW.out.size HN.out ?_); intro v2 w3 ho hb hg hat; have HO' := Aside0.mk ho; have HW' := Aside0.mk hb; clear ho hb hg hat)
      go_roundg (gk - 1)
      case measure => omega
      case rel => exact ⟨i + 1, by omega, by go_num, ⟨by rw [ld_take blkStart i (by simp [blkStart]; omega), ← List.append_assoc, HY.out]; exact HO'.out⟩, HW'⟩
    · obtain rfl : i = 8 := by omega
      clear hlt
      have ex : h ++ blkStart.take 8 = h ++ blkStart := rfl
      rw [ex] at HO
      obtain ⟨g, cap, rfl, hg⟩ := HO.out.own (by rw [List.length_append]; simp [blkStart])
      have l16 : (h ++ blkStart).length = 16 := by rw [List.length_append, HL.out.1]; rfl
      rw [l16] at HO ⊢
      have S0 : Aside0 (BS w wr g cap (h ++ blkStart)) := ⟨HO.out, HW.out, hg⟩
      clear HO HW ex hg
      obtain ⟨v0, hv0⟩ : ∃ v, h ++ blkStart = v := ⟨_, rfl⟩
      rw [hv0] at S0 l16
      have HV0 := Aside0.mk hv0
      have c12 := (R32.cell S0.out.R 12 (by omega)).1
      have f12 := (R32.cell S0.out.R 12 (by omega)).2
      have c13 := (R32.cell S0.out.R 13 (by omega)).1
      have f13 := (R32.cell S0.out.R 13 (by omega)).2
      obtain ⟨x12, hx12⟩ : ∃ x, v0.getD 12 0 = x := ⟨_, rfl⟩
      obtain ⟨x13, hx13⟩ : ∃ x, v0.getD 13 0 = x := ⟨_, rfl⟩
      rw [hx12] at c12
      rw [hx13] at c13
      clear hv0 l16
      have q44 : IntKind.u64.wrap (t.tdiv 4294967296) = t / 4294967296 := by
        rw [Int.tdiv_eq_ediv_of_nonneg ht, IntKind.wrap_u64]
        omega
      go_upto_if 48 with fail
      go_cut [] from 49 (fun wx => Aside0 (BS w wx g cap (seed h t last)))
      case first =>
        have T4 := (S0.out.set 12 (bits .xor .u32 x12 (t % 4294967296))).set 13 (bits .xor .u32 x13 (t / 4294967296))
        have e4 : ((v0.set 12 (bits .xor .u32 x12 (t % 4294967296))).set 13 (bits .xor .u32 x13 (t / 4294967296))) = seed h t false := by
          rw [← hx12, ← hx13, ← HV0.out]
          unfold seed
          simp only [Bool.false_eq_true, if_false, xo]
          rw [show t / 4294967296 % 4294967296 = t / 4294967296 by omega]
          simp only [List.getD_eq_getElem?_getD]
          rw [List.getElem?_set_ne (by decide)]
        rw [e4] at T4
        cases last with
        | false =>
          have TT := Aside0.mk T4
          clear T4 e4 S0
          go_wp2_with fail
          go_meet
          exact TT
        | true =>
          have ls : (seed h t false).length = 16 := by simp [seed, HL.out.1, blkStart]
          have c14 := (R32.cell T4.R 14 (by omega)).1
          have f14 := (R32.cell T4.R 14 (by omega)).2
          obtain ⟨x14, hx14⟩ : ∃ x, (seed h t false).getD 14 0 = x := ⟨_, rfl⟩
          rw [hx14] at c14
          have es : (seed h t false).set 14 ((4294967295 - x14) % 4294967296) = seed h t true := by rw [← hx14]; rfl
          have T5 := T4.set 14 ((4294967295 - x14) % 4294967296)
          rw [es] at T5
          have TT := Aside0.mk T5
          clear T4 e4 T5 es c12 c13 f12 f13 S0 hx14 ls hx12 hx13
          go_wp2_with fail
          go_meet
          exact TT
      case rest =>
      have S1 := hcut
      obtain ⟨s, hs⟩ : ∃ s, seed h t last = s := ⟨_, rfl⟩
      rw [hs] at S1
      have HS := Aside0.mk hs
      have ls : s.length = 16 := by
        rw [← hs]
        cases last <;> simp [seed, HL.out.1, blkStart]
      have HLS := Aside0.mk ls
      clear hcut hs ls c12 c13 f12 f13 hx12 hx13 q44 S0 HV0
      go_wp2_with fail
      go_loopg [11] 10 (fun kk v11 wr => ∃ r : Nat, r + kk = 10 ∧ v11 = .int .i64 r ∧ Aside0 (BS w wr g cap (rounds_ m s r)))
      case atStart => exact ⟨0, by omega, rfl, S1⟩
      case round =>
        clear S1
        obtain ⟨r, hr, rfl, HT⟩ := hrel
        by_cases hlt : r < 10
        · go_wp2_with fail
          refine (order15_calls r hlt _).mono ?_
          rintro e w3 ⟨rfl, b3⟩
          have T3 := Aside0.mk (HT.out.below b3)
          obtain ⟨os, hos⟩ : ∃ s, ordS r = s := ⟨_, rfl⟩
          have hsz := ordS_size r hlt
          have HG := Aside0.mk (fun i hi => ordS_get r i hlt hi)
          rw [hos] at hsz HG ⊢
          clear b3 HT hos
          go_wp2_with fail
          go_loopg [13] 8 (fun kk v13 wr => ∃ i : Nat, i + kk = 8 ∧ v13 = .int .i64 i ∧ Aside0 (BS w wr g cap (lanes m r (rounds_ m s r) i)))
          case atStart => exact ⟨0, by omega, rfl, T3⟩
          case round =>
            clear T3
            obtain ⟨i, hi, rfl, HT⟩ := hrel
            by_cases hlt8 : i < 8
            · have w68 : IntKind.i64.wrap (2 * (i : Int)) = 2 * (i : Int) := IntWalk.i64_in _ (by omega)
              have w77 : IntKind.i64.wrap (2 * (i : Int) + 1) = 2 * (i : Int) + 1 := IntWalk.i64_in _ (by omega)
              have b68 : 2 * (i : Int) < 16 := by omega
              have b77 : 2 * (i : Int) + 1 < 16 := by omega
              have p68 : 0 ≤ 2 * (i : Int) := by omega
              have p77 : 0 ≤ 2 * (i : Int) + 1 := by omega
              have n68 : (2 * (i : Int)).toNat = 2 * i := by omega
              have n77 : (2 * (i : Int) + 1).toNat = 2 * i + 1 := by omega
              have lo := ordAt_lt r (2 * i) hlt (by omega)
              have lo2 := ordAt_lt r (2 * i + 1) hlt (by omega)
              have hg1 := HG.out (2 * i) (by omega)
              have hg2 := HG.out (2 * i + 1) (by omega)
              obtain ⟨o, ho⟩ : ∃ o, ordAt r (2 * i) = o := ⟨_, rfl⟩
              obtain ⟨o2, ho2⟩ : ∃ o, ordAt r (2 * i + 1) = o := ⟨_, rfl⟩
              rw [ho] at lo hg1
              rw [ho2] at lo2 hg2
              have s1 : 2 * i < os.size := by omega
              have s2 : 2 * i + 1 < os.size := by omega
              rw [← ba_get os _ s1] at hg1
              rw [← ba_get os _ s2] at hg2
              have w70 : IntKind.u8.wrap ((os[2 * i].toNat : Int) - 97) = (o : Int) := by rw [hg1, IntKind.wrap_u8]; omega
              have w79 : IntKind.u8.wrap ((os[2 * i + 1].toNat : Int) - 97) = (o2 : Int) := by rw [hg2, IntKind.wrap_u8]; omega
              have cm := rl_cell CM.out HL.out.2 HT.out.B o lo
              have cm2 := rl_cell CM.out HL.out.2 HT.out.B o2 lo2
              obtain ⟨x, hx⟩ : ∃ x, m.getD o 0 = x := ⟨_, rfl⟩
              obtain ⟨y, hy⟩ : ∃ x, m.getD o2 0 = x := ⟨_, rfl⟩
              rw [hx] at cm
              rw [hy] at cm2
              have HO := Aside0.mk (show m.getD (ordAt r (2 * i)) 0 = x by rw [ho]; exact hx)
              have HO2 := Aside0.mk (show m.getD (ordAt r (2 * i + 1)) 0 = y by rw [ho2]; exact hy)
              have lo' : (o : Int) < 16 := by omega
              have lo2' : (o2 : Int) < 16 := by omega
              clear ho hx ho2 hy hg1 hg2
              go_wp2_with fail
              go_quiet (fail)
              have T4 := Aside0.mk (HT.out.drewN nq)
              obtain ⟨W4, hW4⟩ : ∃ W, wr.drewN nq = W := ⟨_, rfl⟩
              rw [hW4] at T4 ⊢
              clear hW4 HT cm cm2 lo lo' lo2 lo2'
              obtain ⟨A, hA⟩ : ∃ A, laneAt i 0 = A := ⟨_, rfl⟩
              obtain ⟨B, hB⟩ : ∃ A, laneAt i 1 = A := ⟨_, rfl⟩
              obtain ⟨C, hC⟩ : ∃ A, laneAt i 2 = A := ⟨_, rfl⟩
              obtain ⟨D, hD⟩ : ∃ A, laneAt i 3 = A := ⟨_, rfl⟩
              have LA := Aside0.mk (And.intro (laneAt_lt i 0 hlt8 (by omega)) (And.intro (laneAt_lt i 1 hlt8 (by omega)) (And.intro (laneAt_lt i 2 hlt8 (by omega)) (laneAt_lt i 3 hlt8 (by omega)))))
              have HL4 := Aside0.mk (And.intro hA (And.intro hB (And.intro hC hD)))
              rw [hA, hB, hC, hD] at LA
              clear hA hB hC hD
              by_cases h4 : i < 4
              · have L4 := Aside0.mk (lane_lo i h4)
                rw [HL4.out.1, HL4.out.2.1, HL4.out.2.2.1, HL4.out.2.2.2] at L4
                go_wp2_with fail
                refine (mixI _ _ _ _ A B C D (by have := L4.out.1; omega) (by have := L4.out.2.1; omega) (by have := L4.out.2.2.1; omega) (by have := L4.out.2.2.2; omega) LA.out.1 LA.out.2.1 LA.out.2.2.1 LA.out.2.2.2 x y _ g cap _ w T4.out).mono ?_
                rintro e w5 ⟨rfl, T5⟩
                have T5 := Aside0.mk T5
                go_wp2_with fail
                go_roundg (gk - 1)
                case measure => omega
                case rel =>
                  refine ⟨i + 1, by omega, by go_num, ⟨?_⟩⟩
                  have hT := T5.out
                  rw [← HO.out, ← HO2.out, ← HL4.out.1, ← HL4.out.2.1, ← HL4.out.2.2.1, ← HL4.out.2.2.2] at hT
                  exact hT
              · have L4 := Aside0.mk (lane_hi i hlt8 h4)
                rw [HL4.out.1, HL4.out.2.1, HL4.out.2.2.1, HL4.out.2.2.2] at L4
                go_wp2_with fail
                refine (mixI _ _ _ _ A B C D (by have := L4.out.1; omega) (by have := L4.out.2.1; omega) (by have := L4.out.2.2.1; omega) (by have := L4.out.2.2.2; omega) LA.out.1 LA.out.2.1 LA.out.2.2.1 LA.out.2.2.2 x y _ g cap _ w T4.out).mono ?_
                rintro e w5 ⟨rfl, T5⟩
                have T5 := Aside0.mk T5
                go_wp2_with fail
                go_roundg (gk - 1)
                case measure => omega
                case rel =>
                  refine ⟨i + 1, by omega, by go_num, ⟨?_⟩⟩
                  have hT := T5.out
                  rw [← HO.out, ← HO2.out, ← HL4.out.1, ← HL4.out.2.1, ← HL4.out.2.2.1, ← HL4.out.2.2.2] at hT
                  exact hT
            · obtain rfl : i = 8 := by omega
              go_wp2_with fail
              go_roundg (9 - r)
              case measure => omega
              case rel => exact ⟨r + 1, by omega, by go_num, HT⟩
        · obtain rfl : r = 10 := by omega
          obtain ⟨v, hv⟩ : ∃ v, rounds_ m s 10 = v := ⟨_, rfl⟩
          rw [hv] at HT
          have HV := Aside0.mk hv
          have lv : v.length = 16 := by rw [← hv, rounds_length]; exact HLS.out
          have HLV := Aside0.mk lv
          clear hv lv
          obtain ⟨cur, hcur, hcells⟩ := HT.out.row
          have HC0 := Aside0.mk hcells
          have HG0 := Aside0.mk hcur
          have HB0 := Aside0.mk HT.out.B
          have hgw := HT.out.G
          clear hcur hcells HT
          go_wp2_with fail
          go_loopg [17, 18] 8 (fun kk v17 v18 wr => ∃ i : Nat, i + kk = 8 ∧ v18 = .int .i64 i ∧ Aside0 (Kd.R (Kd.int .u32) 75 wr w.heap.size (fun b => w.heap.size ≤ b ∧ b ≠ g) v17 ((List.range i).map fun j => xo (h.getD j 0) (xo (v.getD j 0) (v.getD (j + 8) 0)))) ∧ Aside0 (Below w.heap.size w wr) ∧ Aside0 (wr.heap[g]? = some (.cells cur 75 (0, 0))))
          case atStart => exact ⟨0, by omega, rfl, ⟨Kd.R_nil _ _ _ _ _⟩, HB0, HG0⟩
          case round =>
            clear HB0 HG0
            obtain ⟨i, hi, rfl, HO, HB, HG⟩ := hrel
            by_cases hlt : i < 8
            · have ch := rl_cell CH.out HL.out.1 HB.out i hlt
              have c1 := (blk_cell HG.out i).trans (HC0.out i (by omega))
              have c2 := (blk_cell HG.out (i + 8)).trans (HC0.out (i + 8) (by omega))
              obtain ⟨xh, hxh⟩ : ∃ x, h.getD i 0 = x := ⟨_, rfl⟩
              obtain ⟨x1, hx1⟩ : ∃ x, v.getD i 0 = x := ⟨_, rfl⟩
              obtain ⟨x2, hx2⟩ : ∃ x, v.getD (i + 8) 0 = x := ⟨_, rfl⟩
              rw [hxh] at ch
              rw [hx1] at c1
              rw [hx2] at c2
              obtain ⟨y, hy⟩ : ∃ y, bits .xor .u32 (bits .xor .u32 xh x1) x2 = y := ⟨_, rfl⟩
              have HY := Aside0.mk (show y = xo (h.getD i 0) (xo (v.getD i 0) (v.getD (i + 8) 0)) by rw [hxh, hx1, hx2, ← xo_assoc, ← hy]; rfl)
              have w96 : IntKind.i64.wrap ((i : Int) + 8) = (i : Int) + 8 := IntWalk.i64_in _ (by omega)
              have b96 : (i : Int) + 8 < 16 := by omega
              have b93 : (i : Int) < 16 := by omega
              have b94 : (i : Int) < 8 := by omega
              have p96 : 0 ≤ (i : Int) + 8 := by omega
              have n96 : ((i : Int) + 8).toNat = i + 8 := by omega
              clear hxh hx1 hx2
              go_wp2_with fail
              have HO' := Aside0.mk (show Kd.R (Kd.int .u32) 75 wr.drew w.heap.size (fun b => w.heap.size ≤ b ∧ b ≠ g) u17 ((List.range i).map fun j => xo (h.getD j 0) (xo (v.getD j 0) (v.getD (j + 8) 0))) from Kd.R_below HO.out (below_drew (Below.refl _ _)))
              have HB' := Aside0.mk (below_drew HB.out)
              have HG' := Aside0.mk (show wr.drew.heap[g]? = some (.cells cur 75 (0, 0)) from HG.out)
              have hli : i < 8 := hlt
              clear HO HB HG
              go_region_law (refine Kd.R_append_step (Kd.int .u32) (w0 := w) (W := wr.drew) w.heap.size rfl _ _ 43 75 (.int .u32 0) 4 rfl Try.underlying43 info75 rfl (by decide) (by decide) u17 ((List.range i).map fun j => xo (h.getD j 0) (xo (v.getD j 0) (v.getD (j + 8) 0))) y [.int .u32 y] (fun b => w.heap.size ≤ b ∧ b ≠ g) (fun _ => False) rfl rfl rfl (fun _ hk => hk.elim) (fun b hb => ⟨Nat.le_trans HB'.out.size hb, by have := blk_lt HG'.out; omega⟩) HO'.out HB'.out HB'.out.size (by rw [List.length_map, List.length_range]; omega) ?_; intro v2 w3 ho hb hg hat; have HG2 := Aside0.mk (blk_grown HG'.out hg (fun e => (HO'.out.1 g e.symm).2 rfl)); have HO2 := Aside0.mk ho; have HB2 := Aside0.mk hb; clear ho hb hg hat)
              all_goals
                go_wp2_with fail
                go_roundg (gk - 1)
                case measure => omega
                case rel =>
                  refine ⟨i + 1, by omega, by go_num, ⟨?_⟩, HB2, HG2⟩
                  rw [List.range_succ, List.map_append, List.map_singleton, ← HY.out]
                  exact HO2.out
            · obtain rfl : i = 8 := by omega
              have e9 : (List.range 8).map (fun j => xo (h.getD j 0) (xo (v.getD j 0) (v.getD (j + 8) 0))) = takeB h m t last := by
                rw [← HV.out, ← HS.out]; rfl
              rw [e9] at HO
              clear e9 HG
              go_wp2_with fail
              go_ret
              exact ⟨_, rfl, Kd.R_mono HO.out (fun k hk => hk.1), HB.out⟩
end Go.Proofs.Ytokadjfakncdfaa
