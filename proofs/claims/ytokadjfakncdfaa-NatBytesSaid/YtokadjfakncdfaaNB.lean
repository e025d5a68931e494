/- The walk of marlinspikelaw01.NatBytes. -/
import Derived.Test.YtokadjfakncdfaaN15
import Derived.Test.YtokadjfakncdfaaN16
import Derived.Test.YtokadjfakncdfaaN21
import Derived.Test.YtokadjfakncdfaaM7
import Derived.Laws.BytesArg
import Derived.Deep.QuietTactic
set_option linter.unusedVariables false
set_option linter.unusedSimpArgs false
namespace Go.Proofs.Ytokadjfakncdfaa
open Go.RowKit Go.Proofs.YtokadjfakncdfaaW.PrintWords Go.Proofs.YtokadjfakncdfaaW.PrintLast Go.Proofs.YtokadjfakncdfaaW.PrintMore
open PR

def strB (xs : List Int) : ByteArray := xs.foldl (fun r n => r.push (UInt8.ofNat n.toNat)) ByteArray.empty
theorem RL.c8 {k : IntKind} {w : World} {a : Option Addr} {l c : Nat} {xs : List Int} (h : RL k w (.slice a l c) xs) : (Kd.int k).C w a xs.length xs := by
  obtain ⟨A, c', he, _, hC⟩ := h
  cases he
  exact hC
theorem RL.len8 {k : IntKind} {w : World} {a : Option Addr} {l c : Nat} {xs : List Int} (h : RL k w (.slice a l c) xs) : l = xs.length := by
  obtain ⟨A, c', he, _, hC⟩ := h
  cases he
  rfl
theorem str_run {W : World} {a : Option Addr} {l c : Nat} {xs : List Int} (h : RL .u8 W (.slice a l c) xs) : (convert 22 9 (.slice a l c)).run Try.prog W = .ok (.string (strB xs)) W := by
  have hC := h.c8
  have hl := h.len8
  subst hl
  rcases Nat.eq_zero_or_pos xs.length with h0 | h0
  · obtain rfl := List.eq_nil_of_length_eq_zero h0
    cases a with
    | none => exact run_convert_bytes_nil W 22 5 Try.underlying22 Try.underlying5 _ _ 9 Try.underlying9
    | some ad =>
      rw [run_convert_bytes_string W 22 9 5 _ _ _ Try.underlying22 Try.underlying5 Try.underlying9]
      exact run_bytesToString W ad 0 c [] (run_loadCells_list W ad [] (fun j v hj => by simp at hj))
  · obtain ⟨ad, rfl, _⟩ := C_cell hC 0 h0
    rw [run_convert_bytes_string W 22 9 5 _ _ _ Try.underlying22 Try.underlying5 Try.underlying9]
    refine run_bytesToString W ad xs.length c xs ?_
    have := run_loadCells_list (P := Try.prog) W ad (xs.map (Value.int .u8)) (fun j v hj => by
      have hjl : j < xs.length := by
        rcases Nat.lt_or_ge j xs.length with h | h
        · exact h
        · simp [List.getElem?_eq_none (show (xs.map (Value.int .u8)).length ≤ j by simpa using h)] at hj
      obtain ⟨ad', e, hcell⟩ := C_cell hC j hjl
      cases e
      rw [hcell]
      simp [List.getElem?_eq_getElem hjl] at hj
      subst hj
      simp [List.getD, List.getElem?_eq_getElem hjl])
    simpa using this
theorem and_one_u8 (y : Int) (h0 : 0 ≤ y) (h1 : y < 256) : bits .and .u8 y 1 = y % 2 := by
  have h : ∀ i : Fin 256, bits .and .u8 (i.val : Int) 1 = (i.val : Int) % 2 := by decide +kernel
  have := h ⟨y.toNat, by omega⟩
  simpa [Int.toNat_of_nonneg h0] using this
theorem and_byte (x : Int) (hx : 0 ≤ x) (i : Nat) (t : Int) (ht : nbit x i = t) : bits .and .u8 (nby x (i / 8) / 2 ^ (i % 8)) 1 = t := by
  have h1 := nby_range x (i / 8)
  obtain ⟨b, hb⟩ := Int.eq_ofNat_of_zero_le h1.1
  have e : (nby x (i / 8) / 2 ^ (i % 8)) = nby x (i / 8) / ((2 ^ (i % 8) : Nat) : Int) := by rw [Int.natCast_pow]; rfl
  rw [e, and_one_u8, ← nbit_byte x hx i, ht]
  · exact Int.ediv_nonneg h1.1 (Int.natCast_nonneg _)
  · rw [hb, ← Int.natCast_ediv]
    have := Nat.div_le_self b (2 ^ (i % 8))
    omega
theorem lenN_le {x : Int} {n : Nat} (h0 : 0 ≤ x) (h : x < ((2 ^ n : Nat) : Int)) : ∃ r : Nat, LenN x.toNat r ∧ r ≤ n := by
  obtain ⟨X, rfl⟩ := Int.eq_ofNat_of_zero_le h0
  rw [Int.toNat_natCast]
  have h3 : X < 2 ^ n := Int.ofNat_lt.1 h
  by_cases h0 : X = 0
  · exact ⟨0, by rw [h0]; exact ⟨by simp, .inl rfl⟩, by omega⟩
  · refine ⟨X.log2 + 1, ⟨Nat.lt_log2_self, .inr (Nat.log2_self_le h0)⟩, ?_⟩
    have := Nat.log2_lt h0 |>.2 h3
    omega

set_option maxRecDepth 100000 in
theorem NatBytes_long_a (a0 a1 : Option Addr) (l0 c0 l1 c1 : Nat) (w : World) (h0 : (20 : Int) < l0) :
    Calls Try.prog 10 #[.slice a0 l0 c0, .slice a1 l1 c1] w fun e w' => e = .returned (.bool true) ∧ Below w.heap.size w w' := by
  go_enter Try.func10, Try.ntmps10
  go_wp2_with fail
  refine (wakes1_calls _).mono ?_
  rintro e w1 ⟨rfl, b1⟩
  go_wp2_with fail
  go_ret
  exact ⟨rfl, b1⟩

set_option maxRecDepth 100000 in
theorem NatBytes_long_b (a0 a1 : Option Addr) (l0 c0 l1 c1 : Nat) (w : World) (h0 : (l0 : Int) ≤ 20) (h1 : (200 : Int) < l1) :
    Calls Try.prog 10 #[.slice a0 l0 c0, .slice a1 l1 c1] w fun e w' => e = .returned (.bool true) ∧ Below w.heap.size w w' := by
  go_enter Try.func10, Try.ntmps10
  go_wp2_with fail
  refine (wakes1_calls _).mono ?_
  rintro e w1 ⟨rfl, b1⟩
  go_wp2_with fail
  go_ret
  exact ⟨rfl, b1⟩

set_option maxRecDepth 100000 in
set_option maxHeartbeats 8000000 in
theorem NatBytes_pos (a0 a1 : Option Addr) (l0 c0 l1 c1 : Nat) (w : World) (h0 : (l0 : Int) ≤ 20) (h1 : (l1 : Int) ≤ 200) (xa bs : List Int) (r N : Nat)
    (A : RL .u64 w (.slice a0 l0 c0) xa) (da : Dig B64 xa) (hla : xa.length ≤ 20) (B : RL .u8 w (.slice a1 l1 c1) bs) (db : Dig B8 bs) (hlb : l1 = bs.length)
    (hr : LenN (nv B64 xa).toNat r) (hrl : r ≤ 1280) (hN : N = (r + 7) / 8) (hrp : 0 < r) :
    Calls Try.prog 10 #[.slice a0 l0 c0, .slice a1 l1 c1] w fun e w' => e = .returned (.bool true) ∧ Below w.heap.size w w' := by
  subst hlb
  have AA := Aside0.mk A
  have DA := Aside0.mk da
  have BB := Aside0.mk B
  have DB := Aside0.mk db
  have NN : Aside0 (DN w (.slice a0 l0 c0) (nv B64 xa) 20) := ⟨xa, A, da, rfl, hla⟩
  have HR := Aside0.mk hr
  have HN := Aside0.mk hN
  have hN1 : ((r : Int) + 7) / 8 = (N : Int) := by omega
  obtain ⟨q, hq⟩ : ∃ q, r = q + 1 := ⟨r - 1, by omega⟩
  have hq1 : (r : Int) - 1 = (q : Int) := by omega
  have HQ := Aside0.mk hq
  clear hq
  have hN2 : N ≤ 160 := by omega
  have hx0 := Aside0.mk (nv_nonneg B64_pos da)
  have hxN : Aside0 (nv B64 xa < B8 ^ N) := ⟨by
    have h1 := lenN_lt (nv_nonneg B64_pos da) hr
    rw [B8_pow]
    have h2 : (2 : Nat) ^ r ≤ 2 ^ (8 * N) := Nat.pow_le_pow_right (by omega) (by omega)
    omega⟩
  obtain ⟨x, hx⟩ : ∃ x, nv B64 xa = x := ⟨_, rfl⟩
  have HX := Aside0.mk hx
  rw [hx] at NN HR hx0 hxN
  clear A da B db hr hN hx
  go_enter Try.func10, Try.ntmps10
  go_wp2_with fail
  refine (bits_n NN.out (by decide) r HR.out).mono ?_
  rintro e w1 ⟨rfl, b1⟩
  have H1 := Aside0.mk b1
  clear b1
  go_wp2_with fail
  refine (bytes_ok _ xa N r w1 (AA.out.below H1.out) DA.out (by omega) (by omega) (by rw [HX.out]; exact HR.out) (by have := HN.out; omega)).mono ?_
  rintro e w2 ⟨v1, rfl, p1, b2⟩
  rw [HX.out] at p1
  have H2 := Aside0.mk (bon H1.out b2)
  obtain ⟨A1, c9, hv1, hc9, hC9⟩ := p1
  rw [bytesOf_length] at hv1 hc9
  have P2 := Aside0.mk (show RL .u8 w2 v1 (bytesOf x N) from ⟨A1, c9, by rw [bytesOf_length]; exact hv1, by rw [bytesOf_length]; exact hc9, hC9⟩)
  subst hv1
  clear b2 H1 hC9
  go_wp2_with fail
  refine (frombytes_n _ _ w2 P2.out (bytesOf_dig _ _) (by rw [bytesOf_length]; omega)).mono ?_
  rintro e w3 ⟨v2, rfl, q2, b3⟩
  rw [nv_bytesOf x hx0.out N hxN.out] at q2
  have C3 := Aside0.mk q2
  have P3 := Aside0.mk (P2.out.below b3)
  have H3 := Aside0.mk (bon H2.out b3)
  clear b3 q2 P2 H2
  go_wp2_with fail
  refine (frombytes_n _ bs w3 (BB.out.below H3.out) DB.out (by omega)).mono ?_
  rintro e w4 ⟨v3, rfl, q3, b4⟩
  have C4 := Aside0.mk (C3.out.below b4)
  have P4 := Aside0.mk (P3.out.below b4)
  have H4 := Aside0.mk (bon H3.out b4)
  obtain ⟨ys, y1, y2, y3, y4⟩ := q3.out
  have hy0 := nv_nonneg B8_pos DB.out.reverse
  have hyN := nv_lt B8_pos DB.out.reverse
  rw [List.length_reverse, B8_pow] at hyN
  obtain ⟨r', hr', hrl'⟩ := lenN_le hy0 hyN
  have Y4 := Aside0.mk (And.intro y1 (And.intro y2.1 (And.intro y3 (And.intro y4 (And.intro hr' hrl')))))
  clear b4 q3 C3 P3 H3 y1 y2 y3 y4 hy0 hyN hr' hrl'
  go_wp2_with fail
  refine (bytes_ok _ ys bs.length r' w4 Y4.out.1 Y4.out.2.1 Y4.out.2.2.2.1 (by omega) (by rw [Y4.out.2.2.1]; exact Y4.out.2.2.2.2.1) (by have := Y4.out.2.2.2.2.2; omega)).mono ?_
  rintro e w5 ⟨v4, rfl, p5, b5⟩
  have C5 := Aside0.mk (C4.out.below b5)
  have P5 := Aside0.mk (P4.out.below b5)
  have H5 := Aside0.mk (bon H4.out b5)
  rw [Y4.out.2.2.1, bytesOf_nv DB.out] at p5
  obtain ⟨A5, c5, hv5, hc5, hC5⟩ := p5
  have S5 := Aside0.mk (show RL .u8 w5 v4 bs from ⟨A5, c5, hv5, hc5, hC5⟩)
  subst hv5
  clear b5 C4 P4 H4 hC5 hc5 Y4
  go_wp2_with fail
  refine (of_n (NN.out.below H5.out) (by decide)).mono ?_
  rintro e w6 ⟨v6, rfl, q6, b6⟩
  have C6 := Aside0.mk (C5.out.below b6)
  have O6 := Aside0.mk q6
  have P6 := Aside0.mk (P5.out.below b6)
  have S6 := Aside0.mk (S5.out.below b6)
  have H6 := Aside0.mk (bon H5.out b6)
  clear b6 q6 C5 P5 S5 H5
  go_wp2_with fail
  refine (same_t C6.out O6.out (by decide) rfl).mono ?_
  rintro e w7 ⟨rfl, b7⟩
  have P7 := Aside0.mk (P6.out.below b7)
  have H7 := Aside0.mk (bon H6.out b7)
  have hs1 := str_run (S6.out.below b7)
  have hs2 := str_run (BB.out.below H7.out)
  obtain ⟨s, hs⟩ : ∃ s, strB bs = s := ⟨_, rfl⟩
  rw [hs] at hs1 hs2
  clear b7 hs C6 O6 P6 S6 H6
  have hl0 : ∃ ad, A1 = some ad ∧ w7.cell? (ad.add 0) = some (.int .u8 ((bytesOf x N).getD 0 0)) := C_cell P7.out.c8 0 (by rw [bytesOf_length]; omega)
  obtain ⟨ad1, rfl, hcl0⟩ := hl0
  obtain ⟨z, hz⟩ : ∃ z, (bytesOf x N).getD 0 0 = z := ⟨_, rfl⟩
  have hz0 : ¬ (z = 0) := by
    rw [← hz, bytesOf_getD x N 0 (by omega)]
    have := HN.out
    subst this
    exact top_byte hx0.out HR.out (by omega)
  rw [hz] at hcl0
  have hcl1 : w7.cell? ad1 = some (.int .u8 z) := by simpa [Addr.add] using hcl0
  clear hcl0
  have hNp : (0 : Int) < (N : Int) := by omega
  clear hz
  go_wp2_with fail
  go_loopg [14] (8 * N) (fun kk v14 wr => ∃ i : Nat, i + kk = 8 * N ∧ v14 = .int .i64 i ∧ Aside0 (Below w7.heap.size w7 wr))
  case atStart => exact ⟨0, by omega, rfl, ⟨Below.refl _ _⟩⟩
  case round =>
    clear hs1 hs2
    obtain ⟨i, hi, rfl, HW⟩ := hrel
    by_cases hlt : i < 8 * N
    · obtain ⟨J, hJ⟩ : ∃ J, J = N - 1 - i / 8 := ⟨_, rfl⟩
      have hJ1 : (N : Int) - 1 - (i : Int) / 8 = (J : Int) := by omega
      have hJN : J < N := by omega
      obtain ⟨ad, he, hcell⟩ := C_cell (Kd.C_below P7.out.c8 HW.out) J (by rw [bytesOf_length]; exact hJN)
      cases he
      have hcapa : l0 ≤ c0 := by
        obtain ⟨A', c', he, hc', _⟩ := AA.out
        cases he
        exact hc'
      have hbit : ∀ W', (Kd.int .u64).C W' a0 xa.length xa → Calls Try.prog 33 #[.slice a0 l0 c0, .int .i64 i] W' fun e w' => e = .returned (.int .u64 (nbit (nv B64 xa) i)) ∧ w' = W' := fun W' hC =>
        bit_calls (.slice a0 l0 c0) xa i W' ⟨a0, c0, by rw [AA.out.len8], by rw [← AA.out.len8]; exact hcapa, hC⟩ DA.out (by omega) (by omega)
      clear hcapa
      obtain ⟨t, ht⟩ : ∃ t, nbit x i = t := ⟨_, rfl⟩
      have ht01 := ht ▸ nbit_cases x i
      simp only [HX.out, ht] at hbit
      obtain ⟨y, hy⟩ : ∃ y, (bytesOf x N).getD J 0 = y := ⟨_, rfl⟩
      rw [hy] at hcell
      have hand : bits .and .u8 (y / 2 ^ (i % 8)) 1 = t := by
        rw [← hy, bytesOf_getD x N J hJN, show N - 1 - J = i / 8 by omega]
        exact and_byte x hx0.out i t ht
      have hand2 : IntKind.u64.wrap t = t := by rcases ht01 with h | h <;> rw [h] <;> rfl
      have HBit := Aside0.mk hbit
      have hmx : Try.prog.follows .mixedOrders = true := by kernel_rfl
      clear hbit hy ht ht01 hJ
      go_wp2_with fail
      go_quiet ((go_at_call 33; go_loud ((with_reducible refine (HBit.out _ ?side1).mono ?_); (case side1 => repeat (first | exact (Kd.C_below AA.out.c8 (bon H7.out HW.out)) | (with_reducible refine Kd.C_alloc ?_ _) | (with_reducible refine Kd.C_drewN ?_ _) | (with_reducible refine Kd.C_drew ?_))); rintro e w9 ⟨rfl, rfl⟩; exact ⟨rfl, _, rfl⟩)))
      go_wp2_with fail
      go_roundg (gk - 1)
      case measure => omega
      case rel => exact ⟨i + 1, by omega, by go_num, ⟨below_drewN HW.out _⟩⟩
    · obtain rfl : i = 8 * N := by omega
      clear hlt hi
      have HB := Aside0.mk (bon H7.out HW.out)
      clear HW
      go_wp2_with fail
      refine (bits_n (NN.out.below HB.out) (by decide) r HR.out).mono ?_
      rintro e w9 ⟨rfl, b9⟩
      have H9 := Aside0.mk (bon HB.out b9)
      clear b9 HB
      go_wp2_with fail
      refine (bit_calls _ xa r w9 (AA.out.below H9.out) DA.out (by omega) (by omega)).mono ?_
      rw [HX.out, nbit_top hx0.out HR.out]
      rintro e w10 ⟨rfl, rfl⟩
      go_wp2_with fail
      refine (bits_n (NN.out.below H9.out) (by decide) r HR.out).mono ?_
      rintro e w11 ⟨rfl, b11⟩
      have H11 := Aside0.mk (bon H9.out b11)
      clear b11 H9
      go_wp2_with fail
      refine (bits_n (NN.out.below H11.out) (by decide) r HR.out).mono ?_
      rintro e w12 ⟨rfl, b12⟩
      have H12 := Aside0.mk (bon H11.out b12)
      clear b12 H11
      go_wp2_with fail
      refine (bit_calls _ xa q w12 (AA.out.below H12.out) DA.out (by omega) (by omega)).mono ?_
      rw [HX.out, nbit_last hx0.out (by rw [← HQ.out]; exact HR.out)]
      rintro e w14 ⟨rfl, rfl⟩
      go_wp2_with fail
      refine (wakes1_calls _).mono ?_
      rintro e w13 ⟨rfl, b13⟩
      have H13 := Aside0.mk (bon H12.out b13)
      clear b13 H12
      go_wp2_with fail
      go_ret
      exact ⟨rfl, H13.out⟩

set_option maxRecDepth 100000 in
set_option maxHeartbeats 8000000 in
theorem NatBytes_zero (a0 a1 : Option Addr) (l0 c0 l1 c1 : Nat) (w : World) (h0 : (l0 : Int) ≤ 20) (h1 : (l1 : Int) ≤ 200) (xa bs : List Int) (r N : Nat)
    (A : RL .u64 w (.slice a0 l0 c0) xa) (da : Dig B64 xa) (hla : xa.length ≤ 20) (B : RL .u8 w (.slice a1 l1 c1) bs) (db : Dig B8 bs) (hlb : l1 = bs.length)
    (hr : LenN (nv B64 xa).toNat r) (hrl : r ≤ 1280) (hN : N = (r + 7) / 8) (hr0 : r = 0) :
    Calls Try.prog 10 #[.slice a0 l0 c0, .slice a1 l1 c1] w fun e w' => e = .returned (.bool true) ∧ Below w.heap.size w w' := by
  subst hlb
  have AA := Aside0.mk A
  have DA := Aside0.mk da
  have BB := Aside0.mk B
  have DB := Aside0.mk db
  have NN : Aside0 (DN w (.slice a0 l0 c0) (nv B64 xa) 20) := ⟨xa, A, da, rfl, hla⟩
  have HR := Aside0.mk hr
  have HN := Aside0.mk hN
  have hN1 : ((r : Int) + 7) / 8 = (N : Int) := by omega
  have HZ := Aside0.mk hr0
  have hNp : (N : Int) ≤ 0 := by omega
  clear hr0
  have hN2 : N ≤ 160 := by omega
  have hx0 := Aside0.mk (nv_nonneg B64_pos da)
  have hxN : Aside0 (nv B64 xa < B8 ^ N) := ⟨by
    have h1 := lenN_lt (nv_nonneg B64_pos da) hr
    rw [B8_pow]
    have h2 : (2 : Nat) ^ r ≤ 2 ^ (8 * N) := Nat.pow_le_pow_right (by omega) (by omega)
    omega⟩
  obtain ⟨x, hx⟩ : ∃ x, nv B64 xa = x := ⟨_, rfl⟩
  have HX := Aside0.mk hx
  rw [hx] at NN HR hx0 hxN
  clear A da B db hr hN hx
  go_enter Try.func10, Try.ntmps10
  go_wp2_with fail
  refine (bits_n NN.out (by decide) r HR.out).mono ?_
  rintro e w1 ⟨rfl, b1⟩
  have H1 := Aside0.mk b1
  clear b1
  go_wp2_with fail
  refine (bytes_ok _ xa N r w1 (AA.out.below H1.out) DA.out (by omega) (by omega) (by rw [HX.out]; exact HR.out) (by have := HN.out; omega)).mono ?_
  rintro e w2 ⟨v1, rfl, p1, b2⟩
  rw [HX.out] at p1
  have H2 := Aside0.mk (bon H1.out b2)
  obtain ⟨A1, c9, hv1, hc9, hC9⟩ := p1
  rw [bytesOf_length] at hv1 hc9
  have P2 := Aside0.mk (show RL .u8 w2 v1 (bytesOf x N) from ⟨A1, c9, by rw [bytesOf_length]; exact hv1, by rw [bytesOf_length]; exact hc9, hC9⟩)
  subst hv1
  clear b2 H1 hC9
  go_wp2_with fail
  refine (frombytes_n _ _ w2 P2.out (bytesOf_dig _ _) (by rw [bytesOf_length]; omega)).mono ?_
  rintro e w3 ⟨v2, rfl, q2, b3⟩
  rw [nv_bytesOf x hx0.out N hxN.out] at q2
  have C3 := Aside0.mk q2
  have P3 := Aside0.mk (P2.out.below b3)
  have H3 := Aside0.mk (bon H2.out b3)
  clear b3 q2 P2 H2
  go_wp2_with fail
  refine (frombytes_n _ bs w3 (BB.out.below H3.out) DB.out (by omega)).mono ?_
  rintro e w4 ⟨v3, rfl, q3, b4⟩
  have C4 := Aside0.mk (C3.out.below b4)
  have P4 := Aside0.mk (P3.out.below b4)
  have H4 := Aside0.mk (bon H3.out b4)
  obtain ⟨ys, y1, y2, y3, y4⟩ := q3.out
  have hy0 := nv_nonneg B8_pos DB.out.reverse
  have hyN := nv_lt B8_pos DB.out.reverse
  rw [List.length_reverse, B8_pow] at hyN
  obtain ⟨r', hr', hrl'⟩ := lenN_le hy0 hyN
  have Y4 := Aside0.mk (And.intro y1 (And.intro y2.1 (And.intro y3 (And.intro y4 (And.intro hr' hrl')))))
  clear b4 q3 C3 P3 H3 y1 y2 y3 y4 hy0 hyN hr' hrl'
  go_wp2_with fail
  refine (bytes_ok _ ys bs.length r' w4 Y4.out.1 Y4.out.2.1 Y4.out.2.2.2.1 (by omega) (by rw [Y4.out.2.2.1]; exact Y4.out.2.2.2.2.1) (by have := Y4.out.2.2.2.2.2; omega)).mono ?_
  rintro e w5 ⟨v4, rfl, p5, b5⟩
  have C5 := Aside0.mk (C4.out.below b5)
  have P5 := Aside0.mk (P4.out.below b5)
  have H5 := Aside0.mk (bon H4.out b5)
  rw [Y4.out.2.2.1, bytesOf_nv DB.out] at p5
  obtain ⟨A5, c5, hv5, hc5, hC5⟩ := p5
  have S5 := Aside0.mk (show RL .u8 w5 v4 bs from ⟨A5, c5, hv5, hc5, hC5⟩)
  subst hv5
  clear b5 C4 P4 H4 hC5 hc5 Y4
  go_wp2_with fail
  refine (of_n (NN.out.below H5.out) (by decide)).mono ?_
  rintro e w6 ⟨v6, rfl, q6, b6⟩
  have C6 := Aside0.mk (C5.out.below b6)
  have O6 := Aside0.mk q6
  have P6 := Aside0.mk (P5.out.below b6)
  have S6 := Aside0.mk (S5.out.below b6)
  have H6 := Aside0.mk (bon H5.out b6)
  clear b6 q6 C5 P5 S5 H5
  go_wp2_with fail
  refine (same_t C6.out O6.out (by decide) rfl).mono ?_
  rintro e w7 ⟨rfl, b7⟩
  have P7 := Aside0.mk (P6.out.below b7)
  have H7 := Aside0.mk (bon H6.out b7)
  have hs1 := str_run (S6.out.below b7)
  have hs2 := str_run (BB.out.below H7.out)
  obtain ⟨s, hs⟩ : ∃ s, strB bs = s := ⟨_, rfl⟩
  rw [hs] at hs1 hs2
  clear b7 hs C6 O6 P6 S6 H6
  go_wp2_with fail
  go_loopg [14] (8 * N) (fun kk v14 wr => ∃ i : Nat, i + kk = 8 * N ∧ v14 = .int .i64 i ∧ Aside0 (Below w7.heap.size w7 wr))
  case atStart => exact ⟨0, by omega, rfl, ⟨Below.refl _ _⟩⟩
  case round =>
    clear hs1 hs2
    obtain ⟨i, hi, rfl, HW⟩ := hrel
    by_cases hlt : i < 8 * N
    · exact absurd hlt (by have := HN.out; omega)
    · obtain rfl : i = 8 * N := by omega
      clear hlt hi
      have HB := Aside0.mk (bon H7.out HW.out)
      clear HW
      go_wp2_with fail
      refine (bits_n (NN.out.below HB.out) (by decide) r HR.out).mono ?_
      rintro e w9 ⟨rfl, b9⟩
      have H9 := Aside0.mk (bon HB.out b9)
      clear b9 HB
      go_wp2_with fail
      refine (bit_calls _ xa r w9 (AA.out.below H9.out) DA.out (by omega) (by omega)).mono ?_
      rw [HX.out, nbit_top hx0.out HR.out]
      rintro e w10 ⟨rfl, rfl⟩
      go_wp2_with fail
      refine (bits_n (NN.out.below H9.out) (by decide) r HR.out).mono ?_
      rintro e w11 ⟨rfl, b11⟩
      have H11 := Aside0.mk (bon H9.out b11)
      clear b11 H9
      have hr9 : (r : Int) = 0 := by have := HZ.out; omega
      go_wp2_with fail
      have H12 := H11
      clear H11
      refine (wakes1_calls _).mono ?_
      rintro e w13 ⟨rfl, b13⟩
      have H13 := Aside0.mk (bon H12.out b13)
      clear b13 H12
      go_wp2_with fail
      go_ret
      exact ⟨rfl, H13.out⟩

theorem NatBytes_law (w : World) (a0 : Option Addr) (l0 c0 : Nat) (z0 : List Int) (w0 : IsRow .u64 w a0 l0 c0 z0) (y0 : l0 * 8 ≤ 140737488351232) (a1 : Option Addr) (l1 c1 : Nat) (z1 : List Int) (w1 : IsRow .u8 w a1 l1 c1 z1) (y1 : l1 * 1 ≤ 140737488351232) :
    Calls Try.prog 10 #[.slice a0 l0 c0, .slice a1 l1 c1] w fun e w' => e = .returned (.bool true) ∧ Below w.heap.size w w' := by
  by_cases h0 : (20 : Int) < l0
  · exact NatBytes_long_a _ _ _ _ _ _ w h0
  · by_cases h1 : (200 : Int) < l1
    · exact NatBytes_long_b _ _ _ _ _ _ w (by omega) h1
    · obtain ⟨xs, hx, A, da⟩ := w0.u64
      obtain ⟨bs, hb, B, db⟩ := w1.u8
      obtain ⟨r, hr, hrl⟩ := lenN_of da
      by_cases h : r = 0
      · exact NatBytes_zero _ _ _ _ _ _ w (by omega) (by omega) xs bs r _ A da (by omega) B db hb.symm hr (by omega) rfl h
      · exact NatBytes_pos _ _ _ _ _ _ w (by omega) (by omega) xs bs r _ A da (by omega) B db hb.symm hr (by omega) rfl (by omega)
end Go.Proofs.Ytokadjfakncdfaa
