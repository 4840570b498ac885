/-
  LinearSteps: Jump by a small number is so many Nexts, and by m and then n is by both: the law's walk.
-/
import Derived.Test.YtomogkhdfaiekaaHBoth
namespace Go.Proofs.Ytomogkhdfaiekaa.PLin
open Go.Proofs.Ytomogkhdfaiekaa.HW Go.Proofs.Ytomogkhdfaiekaa.HSet Go.RowKit Go.Proofs.YtomogkhdfaiekaaW.PrintWords Go.Proofs.YtomogkhdfaiekaaW.PrintLast Go.Proofs.YtomogkhdfaiekaaW.PrintMore
set_option linter.unusedVariables false
set_option linter.unusedSimpArgs false

set_option maxHeartbeats 2000000 in
set_option maxRecDepth 100000 in
theorem LinearSteps_walk (a0 a1 a2 a3 : Int) (A1 : Option Addr) (c1 : Nat) (l1 : List S25) (A2 : Option Addr) (c2 : Nat) (l2 : List S25) (n far more : Int) (w : World)
    (hr1 : Kd.C k25 w A1 l1.length l1) (hc1 : l1.length ≤ c1) (hr2 : Kd.C k25 w A2 l2.length l2) (hc2 : l2.length ≤ c2) (hl1 : l1.length * 16 ≤ 140737488351232) (hl2 : l2.length * 16 ≤ 140737488351232) :
    Calls Try.prog 11 #[.agg #[.int .i64 a0, .int .i64 a1, .int .i64 a2, .int .i64 a3], .slice A1 l1.length c1, .slice A2 l2.length c2, .int .i64 n, .int .i64 far, .int .i64 more] w fun e w' => e = .returned (.bool true) ∧ Below w.heap.size w w' := by
  obtain ⟨W, H, T, S, hT, hW, hH, ht, hc, hv⟩ := topoT_ok a0 a1 a2 a3
  have hmul := small_mul hW hH
  have U1 := Aside0.mk (fun w => up_calls n 9 (by omega) (by omega) w)
  have U2 := Aside0.mk (fun w => up_calls far 562949953421312 (by omega) (by omega) w)
  have U3 := Aside0.mk (fun w => up_calls more 562949953421312 (by omega) (by omega) w)
  have q0 := Int.emod_nonneg n (show (9 : Int) ≠ 0 by omega); have q1 := Int.emod_lt_of_pos n (show (0 : Int) < 9 by omega)
  have q2 := Int.emod_nonneg far (show (562949953421312 : Int) ≠ 0 by omega); have q3 := Int.emod_lt_of_pos far (show (0 : Int) < 562949953421312 by omega)
  have q4 := Int.emod_nonneg more (show (562949953421312 : Int) ≠ 0 by omega); have q5 := Int.emod_lt_of_pos more (show (0 : Int) < 562949953421312 by omega)
  obtain ⟨i, hi⟩ : ∃ i : Nat, n % 9 = i := ⟨(n % 9).toNat, by omega⟩
  obtain ⟨x, hx⟩ : ∃ x : Nat, far % 562949953421312 = x := ⟨(far % 562949953421312).toNat, by omega⟩
  obtain ⟨y, hy⟩ : ∃ y : Nat, more % 562949953421312 = y := ⟨(more % 562949953421312).toNat, by omega⟩
  rw [hi] at U1 q1
  rw [hx] at U2 q3
  rw [hy] at U3 q5
  clear hi hx hy q0 q2 q4
  have cD := check_once l1 12 (by omega)
  obtain ⟨nc, lc, ec⟩ := cellsL_all hW hH l2
  obtain ⟨k1, h1⟩ := Ev.rounds (ev_once l1 12 (by omega) (by omega))
  obtain ⟨k2, h2⟩ := Ev.rounds (ev_cells hW hH l2 (by omega) 2 T S)
  generalize onceL l1 12 = D at *
  generalize cellsL W H l2 = c at *
  have jj : ∀ m : Nat, m ≤ 1125899906842624 → linear_Jump.f 2 W H T S D c (m : Int) = some (jumpS W H T S D c m, 0) := fun m h => by
    have := jump_f (W := W) (H := H) (T := T) (S := S) ht hmul (D := D) (L := c) (n := (m : Int)) cD nc ec (by omega) (by omega)
    rwa [Int.toNat_natCast] at this
  have jk : ∀ p m : Nat, m ≤ 1125899906842624 → linear_Jump.f 2 W H T S D (jumpS W H T S D c p) (m : Int) = some (jumpS W H T S D c (p + m), 0) := fun p m h => by
    have := jump_f (W := W) (H := H) (T := T) (S := S) ht hmul (D := D) (L := jumpS W H T S D c p) (n := (m : Int)) cD (jumpS_nodup hv D p nc ec) (jumpS_home hv D p nc ec) (by omega) (by omega)
    rwa [Int.toNat_natCast, jumpS_add hv D c p m nc ec] at this
  have ll : ∀ m : Nat, (jumpS W H T S D c m).length ≤ 144 := fun m => home_len hW hH (jumpS_nodup hv D m nc ec) (jumpS_home hv D m nc ec)
  generalize hJ : (fun m : Nat => jumpS W H T S D c m) = J at *
  have hJ' : ∀ m : Nat, jumpS W H T S D c m = J m := fun m => congrFun hJ m
  simp only [hJ'] at jj jk ll
  have ss : ∀ m : Nat, vivariumlaw17_same.f 1000 (J m) (J m) = some true := fun m => by
    have h := ll m
    have := same_eq (l := J m) (m := J m) (k := 1000) (by omega) (by omega)
    rwa [decide_eq_true rfl] at this
  have HT0 := Aside0.mk (show vivariumlaw17_Torus_topo.f a0 a1 a2 a3 = some (2, W, H, T, S) from congrArg some hT)
  have H1 := Aside0.mk h1; have H2 := Aside0.mk h2
  have JJ := Aside0.mk jj; have JK := Aside0.mk jk; have SS := Aside0.mk ss
  have R1 := Aside0.mk hr1; have R2 := Aside0.mk hr2
  clear hT hW hH ht hc hv hmul cD nc lc ec h1 h2 jj jk ll hJ hJ' ss hr1 hr2
  go_enter Try.func11, Try.ntmps11
  go_wp2_with fail
  refine (alive_walk _).mono ?_
  rintro e w1 ⟨rfl, hb1⟩
  obtain ⟨hB, hz1, B0⟩ := alloc1_below hb1
  have HB1 := Aside0.mk hB
  have t0 := blk_cell B0 0; have t1 := blk_cell B0 1; have t2 := blk_cell B0 2; have t3 := blk_cell B0 3
  simp at t0 t1 t2 t3
  clear hb1 hB B0
  go_wp2_with fail
  refine (vivariumlaw17_Torus_topo.calls a0 a1 a2 a3 2 W H T S _ HT0.out).mono ?_
  rintro e w2 ⟨rfl, hb2⟩
  have hz2 := hb2.size
  have HB2 := Aside0.mk (below_then HB1.out (by omega) hb2)
  clear hb2 HB1 t0 t1 t2 t3 HT0
  go_wp2_with fail
  have HB3 := Aside0.mk (below_alloc HB2.out (.cells #[.int .u8 2, .int .i64 W, .int .i64 H, .int .u8 T, .int .i64 S] 42))
  have HT3 := Aside0.mk (alloc_new w2 (.cells #[.int .u8 2, .int .i64 W, .int .i64 H, .int .u8 T, .int .i64 S] 42))
  have hz3 := size_alloc w2 (.cells #[.int .u8 2, .int .i64 W, .int .i64 H, .int .u8 T, .int .i64 S] 42)
  generalize w2.alloc (.cells #[.int .u8 2, .int .i64 W, .int .i64 H, .int .u8 T, .int .i64 S] 42) = w3 at *
  have hg : w.heap.size < w2.heap.size := by omega
  have hz3' : w2.heap.size < w3.heap.size := by omega
  generalize w2.heap.size = g at *
  clear hz3 HB2 hz1 hz2
  refine (vivariumlaw17_once.calls k1 A1 c1 l1 12 D w3 (Kd.C_below R1.out HB3.out) hc1 H1.out).mono ?_
  rintro e w4 ⟨vD, rfl, hR, hb⟩
  obtain ⟨AD, cD, rfl, hcD, hC⟩ := Kd.R_reads hR
  have HB4 := Aside0.mk (below_then HB3.out HB3.out.size hb); have HT4 := Aside0.mk (blk_below HT3.out hb)
  have CD4 := Aside0.mk hC
  clear hb HB3 HT3 hR hC
  have t0 := blk_cell HT4.out 0; have t1 := blk_cell HT4.out 1; have t2 := blk_cell HT4.out 2; have t3 := blk_cell HT4.out 3; have t4 := blk_cell HT4.out 4
  simp at t0 t1 t2 t3 t4
  go_wp2_with fail
  refine (vivariumlaw17_cells.calls k2 2 W H T S A2 c2 l2 c w4 (Kd.C_below R2.out HB4.out) hc2 H2.out).mono ?_
  rintro e w5 ⟨vc, rfl, hR, hb⟩
  obtain ⟨Ac, cc, rfl, hcc, hC⟩ := Kd.R_reads hR
  clear t0 t1 t2 t3 t4
  have HB5 := Aside0.mk (below_then HB4.out HB4.out.size hb); have HT5 := Aside0.mk (blk_below HT4.out hb)
  have Cc5 := Aside0.mk hC
  have CD5 := Aside0.mk (Kd.C_below CD4.out hb)
  clear hb HB4 HT4 CD4 hR hC
  have t0 := blk_cell HT5.out 0; have t1 := blk_cell HT5.out 1; have t2 := blk_cell HT5.out 2; have t3 := blk_cell HT5.out 3; have t4 := blk_cell HT5.out 4
  simp at t0 t1 t2 t3 t4
  go_wp2_with fail
  refine (linear_Jump.calls 2 W H T S AD cD D Ac cc c 0 (J 0) 0 w5 CD5.out hcD Cc5.out hcc (JJ.out 0 (by omega))).mono ?_
  rintro e w6 ⟨vn, rfl, hR, hb⟩
  obtain ⟨An, cn, rfl, hcn, hC⟩ := Kd.R_reads hR
  clear t0 t1 t2 t3 t4
  have HB6 := Aside0.mk (below_then HB5.out HB5.out.size hb); have HT6 := Aside0.mk (blk_below HT5.out hb)
  have Cn6 := Aside0.mk hC
  have CD6 := Aside0.mk (Kd.C_below CD5.out hb)
  have Cc6 := Aside0.mk (Kd.C_below Cc5.out hb)
  clear hb HB5 HT5 CD5 Cc5 hR hC
  have HN0 := Aside0.mk (show Kd.C k25 w6 An (J 0).length (J 0) from Cn6.out)
  have HS0 := Aside0.mk (Below.refl w6.heap.size w6)
  have hg6 := blk_lt HT6.out
  clear Cn6
  go_wp2_with fail
  go_loopw [17, 19] (fun v u wr => ∃ (j : Nat) (An : Option Addr) (cn : Nat), j ≤ i ∧ u = .int .i64 j ∧ v = .slice An (J j).length cn ∧ (J j).length ≤ cn ∧ Kd.C k25 wr An (J j).length (J j) ∧ Below w6.heap.size w6 wr) (fun _ u _ => i - (intOf u).toNat)
  case atStart => exact ⟨0, An, cn, Nat.zero_le _, rfl, rfl, hcn, HN0.out, HS0.out⟩
  case round =>
    clear HN0 HS0 hcn
    obtain ⟨j, An, cn, hj, rfl, rfl, hcn, hN, hB⟩ := hrel
    have CN := Aside0.mk hN; have HBl := Aside0.mk hB
    clear hN hB
    obtain ⟨wo, rfl⟩ : ∃ wo : World, wo = wr := ⟨_, rfl⟩
    have hb := HBl.out
    have HT7 := Aside0.mk (blk_below HT6.out hb); have CD7 := Aside0.mk (Kd.C_below CD6.out hb); have Cc7 := Aside0.mk (Kd.C_below Cc6.out hb)
    have HB7 := Aside0.mk (below_then HB6.out HB6.out.size hb)
    clear hb
    go_wp2_with fail
    refine (U1.out _).mono ?_
    rintro e w8 ⟨rfl, ⟨n8, rfl⟩⟩
    have hb := pw_below_drewN (Below.refl wo.heap.size wo) n8
    have HBl8 := Aside0.mk (pw_below_drewN HBl.out n8)
    generalize wo.drewN n8 = w8 at *
    have HB8 := Aside0.mk (below_then HB7.out HB7.out.size hb); have HT8 := Aside0.mk (blk_below HT7.out hb)
    have CD8 := Aside0.mk (Kd.C_below CD7.out hb)
    have Cc8 := Aside0.mk (Kd.C_below Cc7.out hb)
    have CN8 := Aside0.mk (Kd.C_below CN.out hb)
    clear hb HB7 HT7 CD7 Cc7 HBl CN
    by_cases hlt : j < i
    · have t0 := blk_cell HT8.out 0; have t1 := blk_cell HT8.out 1; have t2 := blk_cell HT8.out 2; have t3 := blk_cell HT8.out 3; have t4 := blk_cell HT8.out 4
      simp at t0 t1 t2 t3 t4
      go_wp2_with fail
      refine (linear_Next.calls 2 W H T S AD cD D An cn (J j) (J (j + 1)) 0 w8 CD8.out hcD CN8.out hcn (JK.out j 1 (by omega))).mono ?_
      rintro e w9 ⟨v9, rfl, hR, hb⟩
      obtain ⟨A9, c9, rfl, hc9, hC⟩ := Kd.R_reads hR
      have HBl9 := Aside0.mk (below_then HBl8.out HBl8.out.size hb)
      have CN9 := Aside0.mk hC
      clear t0 t1 t2 t3 t4 hb hR hC HBl8 CN8 HB8 HT8 CD8 Cc8
      go_wp2
      go_roundw
      case rel => exact ⟨j + 1, A9, c9, by omega, by go_num, rfl, hc9, CN9.out, HBl9.out⟩
      case measure => simp [intOf]; omega
    · obtain rfl : j = i := by omega
      clear HBl8
      have t0 := blk_cell HT8.out 0; have t1 := blk_cell HT8.out 1; have t2 := blk_cell HT8.out 2; have t3 := blk_cell HT8.out 3; have t4 := blk_cell HT8.out 4
      simp at t0 t1 t2 t3 t4
      have hzg8 : g < w8.heap.size := blk_lt HT8.out
      go_wp2_with fail
      go_region_held3 (fun w' => w'.cell? ⟨g, 0, none⟩ = some (.int .u8 2) ∧ w'.cell? ⟨g, 1, none⟩ = some (.int .i64 W) ∧ w'.cell? ⟨g, 2, none⟩ = some (.int .i64 H) ∧ w'.cell? ⟨g, 3, none⟩ = some (.int .u8 T) ∧ w'.cell? ⟨g, 4, none⟩ = some (.int .i64 S))
        (first | go_keep | (have hq := (bcell hb).1; go_split_ands; (refine ⟨?_, ?_, ?_, ?_, ?_⟩) <;> exact (hq _ _ hzg8).trans (by assumption)))
        (first | (go_at_call 33; (with_reducible refine (U1.out _).mono ?_); rintro e w' ⟨rfl, ⟨nq, rfl⟩⟩) | (go_at_call 25; refine (linear_Jump.calls 2 W H T S AD cD D Ac cc c (j : Int) (J j) 0 _ (by repeat (first | exact CD8.out | (with_reducible refine Kd.C_drewN ?_ _) | (with_reducible refine Kd.C_drew ?_))) hcD (by repeat (first | exact Cc8.out | (with_reducible refine Kd.C_drewN ?_ _) | (with_reducible refine Kd.C_drew ?_))) hcc (JJ.out j (by omega))).mono ?_; rintro e w9 ⟨va, rfl, hR, hb⟩; obtain ⟨Aa, ca, rfl, hca, hC⟩ := Kd.R_reads hR))
      clear t0 t1 t2 t3 t4
      replace hb := below_of_drawn hb
      have HB9 := Aside0.mk (below_then HB8.out HB8.out.size hb); have HT9 := Aside0.mk (blk_below HT8.out hb)
      have Ca9 := Aside0.mk hC
      have CD9 := Aside0.mk (Kd.C_below CD8.out hb)
      have Cc9 := Aside0.mk (Kd.C_below Cc8.out hb)
      have CN9 := Aside0.mk (Kd.C_below CN8.out hb)
      clear hb HB8 HT8 CD8 Cc8 CN8 hR hC
      have t0 := blk_cell HT9.out 0; have t1 := blk_cell HT9.out 1; have t2 := blk_cell HT9.out 2; have t3 := blk_cell HT9.out 3; have t4 := blk_cell HT9.out 4
      simp at t0 t1 t2 t3 t4
      have hzg9 : g < w9.heap.size := blk_lt HT9.out
      go_wp2_with fail
      go_region_held3 (fun w' => w'.cell? ⟨g, 0, none⟩ = some (.int .u8 2) ∧ w'.cell? ⟨g, 1, none⟩ = some (.int .i64 W) ∧ w'.cell? ⟨g, 2, none⟩ = some (.int .i64 H) ∧ w'.cell? ⟨g, 3, none⟩ = some (.int .u8 T) ∧ w'.cell? ⟨g, 4, none⟩ = some (.int .i64 S))
        (first | go_keep | (have hq := (bcell hb).1; go_split_ands; (refine ⟨?_, ?_, ?_, ?_, ?_⟩) <;> exact (hq _ _ hzg9).trans (by assumption)))
        (first | (go_at_call 33; (with_reducible refine (U2.out _).mono ?_); rintro e w' ⟨rfl, ⟨nq, rfl⟩⟩) | (go_at_call 25; refine (linear_Jump.calls 2 W H T S AD cD D Ac cc c (x : Int) (J x) 0 _ (by repeat (first | exact CD9.out | (with_reducible refine Kd.C_drewN ?_ _) | (with_reducible refine Kd.C_drew ?_))) hcD (by repeat (first | exact Cc9.out | (with_reducible refine Kd.C_drewN ?_ _) | (with_reducible refine Kd.C_drew ?_))) hcc (JJ.out x (by omega))).mono ?_; rintro e w10 ⟨vo, rfl, hR, hb⟩; obtain ⟨Ao, co, rfl, hco, hC⟩ := Kd.R_reads hR))
      clear t0 t1 t2 t3 t4
      replace hb := below_of_drawn hb
      have HB10 := Aside0.mk (below_then HB9.out HB9.out.size hb); have HT10 := Aside0.mk (blk_below HT9.out hb)
      have Co10 := Aside0.mk hC
      have CD10 := Aside0.mk (Kd.C_below CD9.out hb)
      have Cc10 := Aside0.mk (Kd.C_below Cc9.out hb)
      have CN10 := Aside0.mk (Kd.C_below CN9.out hb)
      have Ca10 := Aside0.mk (Kd.C_below Ca9.out hb)
      clear hb HB9 HT9 CD9 Cc9 CN9 Ca9 hR hC
      have t0 := blk_cell HT10.out 0; have t1 := blk_cell HT10.out 1; have t2 := blk_cell HT10.out 2; have t3 := blk_cell HT10.out 3; have t4 := blk_cell HT10.out 4
      simp at t0 t1 t2 t3 t4
      have hzg10 : g < w10.heap.size := blk_lt HT10.out
      go_wp2_with fail
      go_region_held3 (fun w' => w'.cell? ⟨g, 0, none⟩ = some (.int .u8 2) ∧ w'.cell? ⟨g, 1, none⟩ = some (.int .i64 W) ∧ w'.cell? ⟨g, 2, none⟩ = some (.int .i64 H) ∧ w'.cell? ⟨g, 3, none⟩ = some (.int .u8 T) ∧ w'.cell? ⟨g, 4, none⟩ = some (.int .i64 S))
        (first | go_keep | (have hq := (bcell hb).1; go_split_ands; (refine ⟨?_, ?_, ?_, ?_, ?_⟩) <;> exact (hq _ _ hzg10).trans (by assumption)))
        (first | (go_at_call 33; (with_reducible refine (U3.out _).mono ?_); rintro e w' ⟨rfl, ⟨nq, rfl⟩⟩) | (go_at_call 25; refine (linear_Jump.calls 2 W H T S AD cD D Ao co (J x) (y : Int) (J (x + y)) 0 _ (by repeat (first | exact CD10.out | (with_reducible refine Kd.C_drewN ?_ _) | (with_reducible refine Kd.C_drew ?_))) hcD (by repeat (first | exact Co10.out | (with_reducible refine Kd.C_drewN ?_ _) | (with_reducible refine Kd.C_drew ?_))) hco (JK.out x y (by omega))).mono ?_; rintro e w11 ⟨vt, rfl, hR, hb⟩; obtain ⟨At, ct, rfl, hct, hC⟩ := Kd.R_reads hR))
      clear t0 t1 t2 t3 t4
      replace hb := below_of_drawn hb
      have HB11 := Aside0.mk (below_then HB10.out HB10.out.size hb); have HT11 := Aside0.mk (blk_below HT10.out hb)
      have Ct11 := Aside0.mk hC
      have CD11 := Aside0.mk (Kd.C_below CD10.out hb)
      have Cc11 := Aside0.mk (Kd.C_below Cc10.out hb)
      have CN11 := Aside0.mk (Kd.C_below CN10.out hb)
      have Ca11 := Aside0.mk (Kd.C_below Ca10.out hb)
      clear hb HB10 HT10 CD10 Cc10 CN10 Ca10 hR hC
      have hxy : IntKind.i64.wrap ((x : Int) + (y : Int)) = (x : Int) + (y : Int) := IntWalk.i64_in _ (by omega)
      have JS := Aside0.mk (show linear_Jump.f 2 W H T S D c ((x : Int) + (y : Int)) = some (J (x + y), 0) from by have := JJ.out (x + y) (by omega); rwa [Int.natCast_add] at this)
      have t0 := blk_cell HT11.out 0; have t1 := blk_cell HT11.out 1; have t2 := blk_cell HT11.out 2; have t3 := blk_cell HT11.out 3; have t4 := blk_cell HT11.out 4
      simp at t0 t1 t2 t3 t4
      have hzg11 : g < w11.heap.size := blk_lt HT11.out
      go_wp2_with fail
      go_region_held3 (fun w' => w'.cell? ⟨g, 0, none⟩ = some (.int .u8 2) ∧ w'.cell? ⟨g, 1, none⟩ = some (.int .i64 W) ∧ w'.cell? ⟨g, 2, none⟩ = some (.int .i64 H) ∧ w'.cell? ⟨g, 3, none⟩ = some (.int .u8 T) ∧ w'.cell? ⟨g, 4, none⟩ = some (.int .i64 S))
        (first | go_keep | (have hq := (bcell hb).1; go_split_ands; (refine ⟨?_, ?_, ?_, ?_, ?_⟩) <;> exact (hq _ _ hzg11).trans (by assumption)))
        (first | (go_at_call 33; (with_reducible refine (U2.out _).mono ?_); rintro e w' ⟨rfl, ⟨nq, rfl⟩⟩) | (go_at_call 33; (with_reducible refine (U3.out _).mono ?_); rintro e w' ⟨rfl, ⟨nq, rfl⟩⟩) | (go_at_call 25; refine (linear_Jump.calls 2 W H T S AD cD D Ac cc c ((x : Int) + (y : Int)) (J (x + y)) 0 _ (by repeat (first | exact CD11.out | (with_reducible refine Kd.C_drewN ?_ _) | (with_reducible refine Kd.C_drew ?_))) hcD (by repeat (first | exact Cc11.out | (with_reducible refine Kd.C_drewN ?_ _) | (with_reducible refine Kd.C_drew ?_))) hcc JS.out).mono ?_; rintro e w12 ⟨vb, rfl, hR, hb⟩; obtain ⟨Ab, cb, rfl, hcb, hC⟩ := Kd.R_reads hR))
      clear t0 t1 t2 t3 t4
      replace hb := below_of_drawn hb
      have HB12 := Aside0.mk (below_then HB11.out HB11.out.size hb); have HT12 := Aside0.mk (blk_below HT11.out hb)
      have Cb12 := Aside0.mk hC
      have CN12 := Aside0.mk (Kd.C_below CN11.out hb)
      have Ca12 := Aside0.mk (Kd.C_below Ca11.out hb)
      have Ct12 := Aside0.mk (Kd.C_below Ct11.out hb)
      clear hb HB11 HT11 CN11 Ca11 Ct11 hR hC
      go_wp2_with fail
      refine (vivariumlaw17_same.calls 1000 Aa ca (J j) An cn (J j) true w12 Ca12.out hca CN12.out hcn (SS.out j)).mono ?_
      rintro e w13 ⟨rfl, ⟨n13, rfl⟩⟩
      go_wp2_with fail
      refine (vivariumlaw17_same.calls 1000 At ct (J (x + y)) Ab cb (J (x + y)) true _ (Kd.C_drewN Ct12.out _) hct (Kd.C_drewN Cb12.out _) hcb (SS.out (x + y))).mono ?_
      rintro e w14 ⟨rfl, ⟨n14, rfl⟩⟩
      go_wp2
      go_ret
      exact ⟨rfl, pw_below_drewN HB12.out _⟩
end Go.Proofs.Ytomogkhdfaiekaa.PLin
