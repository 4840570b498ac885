/-
  LinearJumps: the law's walk.
-/
import Derived.Test.YtomogkhdfaiekaaHRefJump
import Derived.Test.YtomogkhdfaiekaaHUses
import Derived.Test.YtomogkhdfaiekaaPLinx26
namespace Go.Proofs.Ytomogkhdfaiekaa.PLin
open Go.Proofs.Ytomogkhdfaiekaa.HW Go.Proofs.Ytomogkhdfaiekaa.HSet Go.RowKit Go.Proofs.YtomogkhdfaiekaaW.PrintWords Go.Proofs.YtomogkhdfaiekaaW.PrintLast Go.Proofs.YtomogkhdfaiekaaW.PrintMore
set_option linter.unusedVariables false
set_option linter.unusedSimpArgs false

set_option maxHeartbeats 2000000 in
set_option maxRecDepth 100000 in
theorem LinearJumps_walk (K W H T S : Int) (A0 : Option Addr) (c0 : Nat) (a : List S25) (A1 : Option Addr) (c1 : Nat) (b : List S25) (n : Int) (w : World) (hr0 : Kd.C k25 w A0 a.length a) (hc0 : a.length ≤ c0) (hr1 : Kd.C k25 w A1 b.length b) (hc1 : b.length ≤ c1) (hn0 : a.length * 16 ≤ 140737488351232) (hn1 : b.length * 16 ≤ 140737488351232) :
    Calls Try.prog 6 #[.agg #[.int .u8 K, .int .i64 W, .int .i64 H, .int .u8 T, .int .i64 S], .slice A0 a.length c0, .slice A1 b.length c1, .int .i64 n] w fun e w' => e = .returned (.bool true) ∧ Below w.heap.size w w' := by
  have R0 := Aside0.mk (Kd.C_alloc hr0 (.cells #[.int .u8 K, .int .i64 W, .int .i64 H, .int .u8 T, .int .i64 S] 42)); have R1 := Aside0.mk (Kd.C_alloc hr1 (.cells #[.int .u8 K, .int .i64 W, .int .i64 H, .int .u8 T, .int .i64 S] 42))
  have HT0 := Aside0.mk (show TBox (w.alloc (.cells #[.int .u8 K, .int .i64 W, .int .i64 H, .int .u8 T, .int .i64 S] 42)) w.heap.size K W H T S from alloc_new _ _)
  have HW0 := Aside0.mk (below_alloc (Below.refl w.heap.size w) (.cells #[.int .u8 K, .int .i64 W, .int .i64 H, .int .u8 T, .int .i64 S] 42))
  clear hr0 hr1
  go_enter Try.func6, Try.ntmps6
  go_wp2_with fail
  have hW00 := HW0.out
  generalize w.alloc (.cells #[.int .u8 K, .int .i64 W, .int .i64 H, .int .u8 T, .int .i64 S] 42) = w0 at *
  clear hW00
  refine (alive_walk _).mono ?_
  rintro e w1 ⟨rfl, hb⟩
  have HB1 := Aside0.mk hb
  obtain ⟨t0, t1, t2, t3, t4⟩ := tcells (blk_below HT0.out hb)
  clear hb
  go_wp2_with fail
  clear t0 t1 t2 t3 t4
  refine (small_walk K W H T S _).mono ?_
  rintro e w2 ⟨rfl, hb⟩
  have HB2 := Aside0.mk (below_then HB1.out HB1.out.size hb)
  clear hb HB1
  obtain ⟨sm, hsm⟩ : ∃ sm, smallB W H = sm := ⟨_, rfl⟩
  rw [hsm]
  clear hsm
  by_cases cc : sm = false ∨ a.length > 300 ∨ b.length > 3000
  · have HE := Aside0.mk (below_then HW0.out HW0.out.size HB2.out)
    rcases cc with rfl | cc | cc
    · go_wp2
      go_ret
      exact ⟨rfl, HE.out⟩
    · have hd : decide (300 < (a.length : Int)) = true := decide_eq_true (by omega)
      cases sm <;> go_wp2 <;> go_ret <;> exact ⟨rfl, HE.out⟩
    · by_cases ca : a.length > 300
      · have hd : decide (300 < (a.length : Int)) = true := decide_eq_true (by omega)
        cases sm <;> go_wp2 <;> go_ret <;> exact ⟨rfl, HE.out⟩
      · have hd : decide (300 < (a.length : Int)) = false := decide_eq_false (by omega)
        have hd2 : decide (3000 < (b.length : Int)) = true := decide_eq_true (by omega)
        cases sm <;> go_wp2 <;> go_ret <;> exact ⟨rfl, HE.out⟩
  have hla : a.length ≤ 300 := by omega
  have hlb : b.length ≤ 3000 := by omega
  obtain rfl : sm = true := by cases sm <;> simp_all
  have hd0 : decide (300 < (a.length : Int)) = false := decide_eq_false (by omega)
  have hd1 : decide (3000 < (b.length : Int)) = false := decide_eq_false (by omega)
  obtain ⟨⟨l1, n1⟩, f1, K1, g1⟩ := ev_refJump K W H T S a b n (by omega) (by omega)
  obtain ⟨⟨l2, n2⟩, f2, K2, g2⟩ := ev_refJump K W H T S a [⟨0, 0⟩] n (by omega) (by simp)
  have F1 := Aside0.mk f1; have F2 := Aside0.mk (show linear_Power.f K W H T S a n = some (l2, n2) from by unfold linear_Power.f; rw [f2]; rfl)
  have G1 := Aside0.mk (g1 K1 (Nat.le_refl _)); have G2 := Aside0.mk (show vivariumref17_Power.f K2 K W H T S a n = some (l2, n2) from by unfold vivariumref17_Power.f; have e := g2 K2 (Nat.le_refl _); dsimp only at e; rw [e]; rfl)
  have L1 := Aside0.mk (jump_len f1); have L2 := Aside0.mk (jump_len f2)
  clear f1 f2 g1 g2 cc
  go_wp2_with fail
  refine (lent_walk A0 c0 a w2 (Kd.C_below R0.out HB2.out) hc0 (by omega)).mono ?_
  rintro e w3 ⟨Ax, cx, rfl, hcx, hRx, hb⟩
  have HB3 := Aside0.mk (below_then HB2.out HB2.out.size hb)
  have X3 := Aside0.mk (O25_of_R hRx : O25 w3 w2.heap.size (.slice Ax (a.length + 70) cx) (a ++ marks))
  clear hb hRx HB2
  go_wp2_with fail
  refine (lent_walk A1 c1 b w3 (Kd.C_below R1.out HB3.out) hc1 (by omega)).mono ?_
  rintro e w4 ⟨Ay, cy, rfl, hcy, hRy, hb⟩
  have HB4 := Aside0.mk (below_then HB3.out HB3.out.size hb)
  have HT4 := Aside0.mk (blk_below HT0.out HB4.out)
  have X4 := Aside0.mk (O25_below X3.out hb)
  have Y4 := Aside0.mk (O25_of_R hRy : O25 w4 w3.heap.size (.slice Ay (b.length + 70) cy) (b ++ marks))
  clear hb hRy HB3 X3
  obtain ⟨t0, t1, t2, t3, t4⟩ := tcells (blk_alloc HT4.out (.cells #[.slice none 0 0, .slice none 0 0, .bool false] 35))
  go_wp2_with fail
  clear t0 t1 t2 t3 t4
  have B5 := Aside0.mk (Book.fresh (Below.refl w4.heap.size w4))
  have hb := below_alloc (Below.refl w4.heap.size w4) (.cells #[.slice none 0 0, .slice none 0 0, .bool false] 35)
  have X5 := Aside0.mk (O25_below X4.out hb); have Y5 := Aside0.mk (O25_below Y4.out hb)
  clear hb X4 Y4
  have hww := HB4.out
  generalize w4.alloc (.cells #[.slice none 0 0, .slice none 0 0, .bool false] 35) = w5 at *
  obtain ⟨bk, hbk⟩ : ∃ bk, w4.heap.size = bk := ⟨_, rfl⟩
  have HBK := Aside0.mk hbk
  rw [hbk] at B5 ⊢
  clear hbk hww
  refine (vivariumref17_Jump.calls K1 K W H T S A0 c0 a A1 c1 b n l1 n1 w5 (Kd.C_below R0.out (below_then HB4.out HB4.out.size B5.out.below)) hc0 (Kd.C_below R1.out (below_then HB4.out HB4.out.size B5.out.below)) hc1 G1.out).mono ?_
  rintro e w6 ⟨vT, rfl, hR, hb⟩
  have X6 := Aside0.mk (O25_below X5.out hb)
  have Y6 := Aside0.mk (O25_below Y5.out hb)
  have B6 := Aside0.mk (B5.out.move hb); have T6 := Aside0.mk (R_base25 hR B5.out.below.size : O25 w6 w4.heap.size vT l1)
  clear hb hR B5 X5 Y5
  obtain ⟨t0, t1, t2, t3, t4⟩ := tcells (blk_below HT4.out B6.out.below)
  go_wp2_with fail
  clear t0 t1 t2 t3 t4
  refine (linear_Jump.calls K W H T S Ax cx a Ay cy b n l1 n1 w6 (x_C X6.out) (by omega) (x_C Y6.out) (by omega) F1.out).mono ?_
  rintro e w7 ⟨vU, rfl, hR, hb⟩
  have X7 := Aside0.mk (O25_below X6.out hb)
  have Y7 := Aside0.mk (O25_below Y6.out hb)
  have T7 := Aside0.mk (O25_below T6.out hb)
  have B7 := Aside0.mk (B6.out.move hb); have U7 := Aside0.mk (R_base25 hR B6.out.below.size : O25 w7 w4.heap.size vU l1); have EU := Aside0.mk (new_ent B6.out hR)
  clear hb hR B6 X6 Y6 T6
  go_wp2_with fail
  refine (adds_walk w4 w7 bk [] vU vT l1 n1 B7.out U7.out T7.out EU.out (by simp) (by have := L1.out; omega)).mono ?_
  rintro e w8 ⟨rfl, hB, hk⟩
  have X8 := Aside0.mk (O25_keep X7.out hk)
  have Y8 := Aside0.mk (O25_keep Y7.out hk)
  have T8 := Aside0.mk (O25_keep T7.out hk)
  have B8 := Aside0.mk hB
  clear hB hk B7 EU X7 Y7 T7 U7
  obtain ⟨t0, t1, t2, t3, t4⟩ := tcells (blk_below HT4.out B8.out.below)
  go_wp2_with fail
  clear t0 t1 t2 t3 t4
  refine (vivariumref17_Power.calls K2 K W H T S A0 c0 a n l2 n2 w8 (Kd.C_below R0.out (below_then HB4.out HB4.out.size B8.out.below)) hc0 G2.out).mono ?_
  rintro e w9 ⟨vS, rfl, hR, hb⟩
  have X9 := Aside0.mk (O25_below X8.out hb)
  have Y9 := Aside0.mk (O25_below Y8.out hb)
  have T9 := Aside0.mk (O25_below T8.out hb)
  have B9 := Aside0.mk (B8.out.move hb); have S9 := Aside0.mk (R_base25 hR B8.out.below.size : O25 w9 w4.heap.size vS l2)
  clear hb hR B8 X8 Y8 T8
  obtain ⟨t0, t1, t2, t3, t4⟩ := tcells (blk_below HT4.out B9.out.below)
  go_wp2_with fail
  clear t0 t1 t2 t3 t4
  refine (linear_Power.calls K W H T S Ax cx a n l2 n2 w9 (x_C X9.out) (by omega) F2.out).mono ?_
  rintro e w10 ⟨vV, rfl, hR, hb⟩
  have X10 := Aside0.mk (O25_below X9.out hb)
  have Y10 := Aside0.mk (O25_below Y9.out hb)
  have T10 := Aside0.mk (O25_below T9.out hb)
  have S10 := Aside0.mk (O25_below S9.out hb)
  have B10 := Aside0.mk (B9.out.move hb); have V10 := Aside0.mk (R_base25 hR B9.out.below.size : O25 w10 w4.heap.size vV l2); have EV := Aside0.mk (new_ent B9.out hR)
  clear hb hR B9 X9 Y9 T9 S9
  go_wp2_with fail
  refine (adds_walk w4 w10 bk ([] ++ [⟨vU, vT, l1⟩]) vV vS l2 n2 B10.out V10.out S10.out EV.out (by simp) (by have := L2.out; omega)).mono ?_
  rintro e w11 ⟨rfl, hB, hk⟩
  have X11 := Aside0.mk (O25_keep X10.out hk)
  have Y11 := Aside0.mk (O25_keep Y10.out hk)
  have T11 := Aside0.mk (O25_keep T10.out hk)
  have S11 := Aside0.mk (O25_keep S10.out hk)
  have B11 := Aside0.mk hB
  clear hB hk B10 EV X10 Y10 T10 S10 V10
  obtain ⟨t0, t1, t2, t3, t4⟩ := tcells (blk_below HT4.out B11.out.below)
  go_wp2_with fail
  clear t0 t1 t2 t3 t4
  refine (linear_Jump.calls K W H T S Ax cx a Ay cy b n l1 n1 w11 (x_C X11.out) (by omega) (x_C Y11.out) (by omega) F1.out).mono ?_
  rintro e w12 ⟨vP, rfl, hR, hb⟩
  have X12 := Aside0.mk (O25_below X11.out hb)
  have Y12 := Aside0.mk (O25_below Y11.out hb)
  have T12 := Aside0.mk (O25_below T11.out hb)
  have S12 := Aside0.mk (O25_below S11.out hb)
  have B12 := Aside0.mk (B11.out.move hb); have P12 := Aside0.mk (R_base25 hR B11.out.below.size : O25 w12 w4.heap.size vP l1); have EP := Aside0.mk (new_ent B11.out hR)
  clear hb hR B11 X11 Y11 T11 S11
  go_wp2_with fail
  refine (adds_walk w4 w12 bk ([] ++ [⟨vU, vT, l1⟩] ++ [⟨vV, vS, l2⟩]) vP vT l1 n1 B12.out P12.out T12.out EP.out (by simp) (by have := L1.out; omega)).mono ?_
  rintro e w13 ⟨rfl, hB, hk⟩
  have X13 := Aside0.mk (O25_keep X12.out hk)
  have Y13 := Aside0.mk (O25_keep Y12.out hk)
  have S13 := Aside0.mk (O25_keep S12.out hk)
  have B13 := Aside0.mk hB
  clear hB hk B12 EP X12 Y12 S12 P12 T12
  obtain ⟨t0, t1, t2, t3, t4⟩ := tcells (blk_below HT4.out B13.out.below)
  go_wp2_with fail
  clear t0 t1 t2 t3 t4
  refine (linear_Power.calls K W H T S Ax cx a n l2 n2 w13 (x_C X13.out) (by omega) F2.out).mono ?_
  rintro e w14 ⟨vQ, rfl, hR, hb⟩
  have X14 := Aside0.mk (O25_below X13.out hb)
  have Y14 := Aside0.mk (O25_below Y13.out hb)
  have S14 := Aside0.mk (O25_below S13.out hb)
  have B14 := Aside0.mk (B13.out.move hb); have Q14 := Aside0.mk (R_base25 hR B13.out.below.size : O25 w14 w4.heap.size vQ l2); have EQ := Aside0.mk (new_ent B13.out hR)
  clear hb hR B13 X13 Y13 S13
  go_wp2_with fail
  refine (adds_walk w4 w14 bk ([] ++ [⟨vU, vT, l1⟩] ++ [⟨vV, vS, l2⟩] ++ [⟨vP, vT, l1⟩]) vQ vS l2 n2 B14.out Q14.out S14.out EQ.out (by simp) (by have := L2.out; omega)).mono ?_
  rintro e w15 ⟨rfl, hB, hk⟩
  have X15 := Aside0.mk (O25_keep X14.out hk)
  have Y15 := Aside0.mk (O25_keep Y14.out hk)
  have B15 := Aside0.mk hB
  clear hB hk B14 EQ X14 Y14 Q14 S14
  go_wp2_with fail
  refine (kept_walk Ax cx A0 c0 a w15 (x_C70 X15.out) (by omega) (Kd.C_below R0.out (below_then HB4.out HB4.out.size B15.out.below)) hc0 (by omega)).mono ?_
  rintro e w16 ⟨rfl, hb⟩
  have X16 := Aside0.mk (O25_below X15.out hb)
  have Y16 := Aside0.mk (O25_below Y15.out hb)
  have B16 := Aside0.mk (B15.out.move hb)
  clear hb B15 X15 Y15
  go_wp2_with fail
  refine (kept_walk Ay cy A1 c1 b w16 (x_C70 Y16.out) (by omega) (Kd.C_below R1.out (below_then HB4.out HB4.out.size B16.out.below)) hc1 (by omega)).mono ?_
  rintro e w17 ⟨rfl, hb⟩
  have B17 := Aside0.mk (B16.out.move hb)
  clear hb B16 X16 Y16
  have HS := Aside0.mk (stands_walk w4 w17 bk _ B17.out (by simp) (by simp) (fun e he => by
    have h1 := L1.out; have h2 := L2.out
    simp at he
    rcases he with rfl | rfl | rfl | rfl <;> (dsimp only; omega)))
  clear B17
  go_wp2_with fail
  refine HS.out.mono ?_
  rintro e w18 ⟨rfl, hb⟩
  have HE := Aside0.mk (below_then HW0.out HW0.out.size (below_then HB4.out HB4.out.size hb))
  clear hb HS
  go_wp2
  go_ret
  exact ⟨rfl, HE.out⟩
end Go.Proofs.Ytomogkhdfaiekaa.PLin
