/-
  LinearCopies: 2 to the power of k generations later each pattern stands once for each offset, so many times as far: the plain law, and the law's walk.
-/
import Derived.Test.YtomogkhdfaiekaaHBoth
namespace Go.Proofs.Ytomogkhdfaiekaa.PLin
open Go.Proofs.Ytomogkhdfaiekaa.HW Go.Proofs.Ytomogkhdfaiekaa.HSet Go.RowKit Go.Proofs.YtomogkhdfaiekaaW.PrintWords Go.Proofs.YtomogkhdfaiekaaW.PrintLast Go.Proofs.YtomogkhdfaiekaaW.PrintMore
set_option linter.unusedVariables false
set_option linter.unusedSimpArgs false

def wideP (m : Int) (d : S25) : S25 := ⟨m * d.f0, m * d.f1⟩
theorem copies_law {W H T S : Int} (hv : TV W H T S) (D : List S25) {c : List S25} (hc : c.Nodup) (hh : ∀ p ∈ c, hasB W H p = true) (k : Nat) : jumpS W H T S D c (2 ^ k) = jumpS W H T S (D.map (wideP (2 ^ k))) c 1 := by
  refine eq_of_par hv (jumpS_nodup hv _ _ hc hh) (jumpS_home hv _ _ hc hh) (jumpS_nodup hv _ 1 hc hh) (jumpS_home hv _ 1 hc hh) (jumpS_sorted ..) (jumpS_sorted ..) fun G hG => ?_
  rw [par_jumpS hv hG, par_jumpS hv hG, opN_pow hG D k]
  rfl
theorem check_wide {D : List S25} (hn : D.Nodup) (hl : D.length ≤ 12) (hD : ∀ p ∈ D, near999 p) {m : Int} (h0 : 1 ≤ m) (h1 : m ≤ 1048576) : linear_Check.f (D.map (wideP m)) = some 0 := by
  unfold linear_Check.f
  have e : (D.map (wideP m)).Nodup := List.Pairwise.map _ (fun a b hab => fun h => hab (by
    unfold wideP at h
    injection h with h2 h3
    rw [S25.ext_iff']
    exact ⟨Int.eq_of_mul_eq_mul_left (by omega) h2, Int.eq_of_mul_eq_mul_left (by omega) h3⟩)) hn
  rw [if_neg (by rw [List.length_map]; omega), if_pos (List.all_eq_true.2 fun p hp => ?_), if_pos e]
  obtain ⟨d, hd, rfl⟩ := List.mem_map.1 hp
  have h := hD d hd
  unfold near999 at h
  have key : ∀ a : Int, -999 ≤ a → a ≤ 999 → -1047527424 ≤ m * a ∧ m * a ≤ 1047527424 := fun a h2 h3 => by
    have h4 := Int.natAbs_mul m a
    have h5 : m.natAbs * a.natAbs ≤ 1048576 * 999 := Nat.mul_le_mul (by omega) (by omega)
    omega
  have k0 := key d.f0 h.1.1 h.1.2; have k1 := key d.f1 h.2.1 h.2.2
  unfold nearP wideP
  rw [Bool.and_eq_true, nearN_iff, nearN_iff]
  dsimp only; omega

set_option maxHeartbeats 1000000 in
set_option maxRecDepth 100000 in
theorem LinearCopies_walk (a0 a1 a2 a3 : Int) (A1 : Option Addr) (c1 : Nat) (l1 : List S25) (A2 : Option Addr) (c2 : Nat) (l2 : List S25) (n : Int) (w : World)
    (hr1 : Kd.C k25 w A1 l1.length l1) (hc1 : l1.length ≤ c1) (hr2 : Kd.C k25 w A2 l2.length l2) (hc2 : l2.length ≤ c2) (hl1 : l1.length * 16 ≤ 140737488351232) (hl2 : l2.length * 16 ≤ 140737488351232) :
    Calls Try.prog 12 #[.agg #[.int .i64 a0, .int .i64 a1, .int .i64 a2, .int .i64 a3], .slice A1 l1.length c1, .slice A2 l2.length c2, .int .i64 n] w fun e w' => e = .returned (.bool true) ∧ Below w.heap.size w w' := by
  obtain ⟨W, H, T, S, hT, hW, hH, ht, hc, hv⟩ := topoT_ok a0 a1 a2 a3
  have hmul := small_mul hW hH
  have q0 := Int.emod_nonneg n (show (21 : Int) ≠ 0 by omega); have q1 := Int.emod_lt_of_pos n (show (0 : Int) < 21 by omega)
  have HU := Aside0.mk (fun w => up_calls n 21 (by omega) (by omega) w)
  obtain ⟨k, hk⟩ : ∃ k : Nat, n % 21 = k := ⟨(n % 21).toNat, by omega⟩
  rw [hk] at HU
  have hk20 : k ≤ 20 := by omega
  obtain ⟨m, hm⟩ : ∃ m : Nat, 2 ^ k = m := ⟨_, rfl⟩
  have hm1 : 1 ≤ m := hm ▸ Nat.one_le_two_pow
  have hm2 : m ≤ 1048576 := hm ▸ (Nat.pow_le_pow_right (by omega) hk20 : 2 ^ k ≤ 2 ^ 20)
  have cD := check_once l1 12 (by omega)
  obtain ⟨nD, lD, eD⟩ := onceL_all l1 12
  obtain ⟨nc, lc, ec⟩ := cellsL_all hW hH l2
  obtain ⟨k1, h1⟩ := Ev.rounds (ev_once l1 12 (by omega) (by omega))
  obtain ⟨k2, h2⟩ := Ev.rounds (ev_cells hW hH l2 (by omega) 2 T S)
  generalize onceL l1 12 = D at *
  generalize cellsL W H l2 = c at *
  have cw := check_wide nD lD eD (m := (m : Int)) (by omega) (by omega)
  have hlaw := copies_law hv D nc ec k
  rw [hm, show ((2 : Int) ^ k) = (m : Int) from by rw [← hm]; exact (Int.natCast_pow 2 k).symm] at hlaw
  have j1 := jump_f (W := W) (H := H) (T := T) (S := S) ht hmul (D := D) (L := c) (n := (m : Int)) cD nc ec (by omega) (by omega)
  have j2 := jump_f (W := W) (H := H) (T := T) (S := S) ht hmul (D := D.map (wideP m)) (L := c) (n := 1) cw nc ec (by omega) (by omega)
  rw [show (1 : Int).toNat = 1 from rfl, ← hlaw] at j2
  rw [Int.toNat_natCast] at j1
  have lz := home_len hW hH (jumpS_nodup hv D m nc ec) (jumpS_home hv D m nc ec)
  generalize jumpS W H T S D c m = z at *
  have HT0 := Aside0.mk (show vivariumlaw17_Torus_topo.f a0 a1 a2 a3 = some (2, W, H, T, S) from congrArg some hT)
  have H1 := Aside0.mk h1; have H2 := Aside0.mk h2
  have J1 := Aside0.mk j1; have J2 := Aside0.mk j2
  have S2 := Aside0.mk (same_eq (l := z) (m := z) (k := 1000) (by omega) (by omega))
  rw [decide_eq_true rfl] at S2
  have R1 := Aside0.mk hr1; have R2 := Aside0.mk hr2
  have ED := Aside0.mk eD
  have HM := Aside0.mk hm
  clear hT hW hH ht hc hv hmul q0 q1 hk hm cD nD eD nc lc ec h1 h2 cw hlaw j1 j2 lz hr1 hr2
  go_enter Try.func12, Try.ntmps12
  go_wp2_with fail
  refine (alive_walk _).mono ?_
  rintro e w1 ⟨rfl, hb1⟩
  obtain ⟨hB, hz1, B0⟩ := alloc1_below hb1
  have HB1 := Aside0.mk hB
  have t0 := blk_cell B0 0; have t1 := blk_cell B0 1; have t2 := blk_cell B0 2; have t3 := blk_cell B0 3
  simp at t0 t1 t2 t3
  clear hb1 hB B0
  go_wp2_with fail
  refine (vivariumlaw17_Torus_topo.calls a0 a1 a2 a3 2 W H T S _ HT0.out).mono ?_
  rintro e w2 ⟨rfl, hb2⟩
  have hz2 := hb2.size
  have HB2 := Aside0.mk (below_then HB1.out (by omega) hb2)
  clear hb2 HB1 t0 t1 t2 t3 HT0
  go_wp2_with fail
  have HB3 := Aside0.mk (below_alloc HB2.out (.cells #[.int .u8 2, .int .i64 W, .int .i64 H, .int .u8 T, .int .i64 S] 42))
  have HT3 := Aside0.mk (alloc_new w2 (.cells #[.int .u8 2, .int .i64 W, .int .i64 H, .int .u8 T, .int .i64 S] 42))
  have hz3 := size_alloc w2 (.cells #[.int .u8 2, .int .i64 W, .int .i64 H, .int .u8 T, .int .i64 S] 42)
  generalize w2.alloc (.cells #[.int .u8 2, .int .i64 W, .int .i64 H, .int .u8 T, .int .i64 S] 42) = w3 at *
  have hg : w.heap.size < w2.heap.size := by omega
  have hz3' : w2.heap.size < w3.heap.size := by omega
  generalize w2.heap.size = g at *
  clear hz3 HB2 hz1 hz2
  refine (vivariumlaw17_once.calls k1 A1 c1 l1 12 D w3 (Kd.C_below R1.out HB3.out) hc1 H1.out).mono ?_
  rintro e w4 ⟨vD, rfl, hR, hb⟩
  obtain ⟨AD, cD, rfl, hcD, hC⟩ := Kd.R_reads hR
  have HB4 := Aside0.mk (below_then HB3.out HB3.out.size hb); have HT4 := Aside0.mk (blk_below HT3.out hb)
  have CD4 := Aside0.mk hC
  clear hb HB3 HT3 hR hC
  have t0 := blk_cell HT4.out 0; have t1 := blk_cell HT4.out 1; have t2 := blk_cell HT4.out 2; have t3 := blk_cell HT4.out 3; have t4 := blk_cell HT4.out 4
  simp at t0 t1 t2 t3 t4
  go_wp2_with fail
  refine (vivariumlaw17_cells.calls k2 2 W H T S A2 c2 l2 c w4 (Kd.C_below R2.out HB4.out) hc2 H2.out).mono ?_
  rintro e w5 ⟨vc, rfl, hR, hb⟩
  obtain ⟨Ac, cc, rfl, hcc, hC⟩ := Kd.R_reads hR
  clear t0 t1 t2 t3 t4
  have HB5 := Aside0.mk (below_then HB4.out HB4.out.size hb); have HT5 := Aside0.mk (blk_below HT4.out hb)
  have Cc5 := Aside0.mk hC
  have CD5 := Aside0.mk (Kd.C_below CD4.out hb)
  clear hb HB4 HT4 CD4 hR hC
  go_wp2_with fail
  refine (HU.out _).mono ?_
  rintro e w6 ⟨rfl, ⟨n6, rfl⟩⟩
  have hb := pw_below_drewN (Below.refl w5.heap.size w5) n6
  generalize w5.drewN n6 = w6 at *
  have HB6 := Aside0.mk (below_then HB5.out HB5.out.size hb); have HT6 := Aside0.mk (blk_below HT5.out hb)
  have CD6 := Aside0.mk (Kd.C_below CD5.out hb)
  have Cc6 := Aside0.mk (Kd.C_below Cc5.out hb)
  clear hb HB5 HT5 CD5 Cc5
  go_wp2_with fail
  have hw64 : wrap64 ((2 : Int) ^ k) = (m : Int) := by rw [show ((2 : Int) ^ k) = (m : Int) from by rw [← HM.out]; exact (Int.natCast_pow 2 k).symm, w64 (by omega) (by omega)]
  rw [hw64]
  clear hw64
  have HW0 := Aside0.mk (show Kd.R k25 25 w6 w6.heap.size (fun _ => True) (.slice none 0 0) ((D.take 0).map (wideP m)) from Kd.R_nil _ _ _ _ _)
  have HK0 := Aside0.mk (Below.refl w6.heap.size w6)
  have hg6 := blk_lt HT6.out
  go_loopw [14, 15] (fun v i wr => ∃ j : Nat, j ≤ D.length ∧ i = .int .i64 j ∧ Kd.R k25 25 wr w6.heap.size (fun _ => True) v ((D.take j).map (wideP m)) ∧ Below w6.heap.size w6 wr) (fun _ i _ => D.length - (intOf i).toNat)
  case atStart => exact ⟨0, Nat.zero_le _, rfl, HW0.out, HK0.out⟩
  case round =>
    clear HW0 HK0
    obtain ⟨j, hj, rfl, ho, hB⟩ := hrel
    have HO := Aside0.mk ho; have HB := Aside0.mk hB
    clear ho hB
    obtain ⟨wo, rfl⟩ : ∃ wo : World, wo = wr := ⟨_, rfl⟩
    by_cases hlt : j < D.length
    · obtain ⟨ad, hA, e0, e1⟩ := at_T25 CD6.out (j : Int) (by omega) (by omega)
      subst hA
      rw [Int.toNat_natCast] at e0 e1
      have d0 := pw_cell_below HB.out e0
      have d1 := pw_cell_below HB.out e1
      clear e0 e1
      have hlt' : (j : Int) < (D.length : Int) := by omega
      have hj0 : (0 : Int) ≤ (j : Int) := by omega
      have hp := ED.out _ (rd_mem D j hlt j rfl)
      have hts := Aside0.mk (take_succ_rd D j hlt)
      generalize rd_T25 D (j : Int) = p at *
      unfold near999 at hp
      have key : ∀ a : Int, -999 ≤ a → a ≤ 999 → -1047527424 ≤ (m : Int) * a ∧ (m : Int) * a ≤ 1047527424 := fun a h2 h3 => by
        have h4 := Int.natAbs_mul (m : Int) a
        have h5 : (m : Int).natAbs * a.natAbs ≤ 1048576 * 999 := Nat.mul_le_mul (by omega) (by omega)
        omega
      have x0 : IntKind.i64.wrap ((m : Int) * p.f0) = (m : Int) * p.f0 := IntWalk.i64_in _ (by have := key p.f0 (by omega) (by omega); omega)
      have x1 : IntKind.i64.wrap ((m : Int) * p.f1) = (m : Int) * p.f1 := IntWalk.i64_in _ (by have := key p.f1 (by omega) (by omega); omega)
      clear key hp
      go_wp2_with fail
      have HL := Aside0.mk (show ((D.take j).map (wideP m)).length = j from by rw [List.length_map, List.length_take]; omega)
      go_region_law ((refine Kd.R_append_step k25 (w0 := w6) (W := wo.drew) w6.heap.size (by rfl) (.tmp 38) (.tmp 54) 23 25 (.agg #[(.int .i64 0), (.int .i64 0)]) 16 (by rfl) Try.underlying23 info25 (by rfl) (by decide) (by omega) u14 ((D.take j).map (wideP m)) (wideP m p) [.int .i64 ((m : Int) * p.f0), .int .i64 ((m : Int) * p.f1)] (fun _ => True) (fun _ => False) (by rfl) (by rfl) ?aP (fun _ hk => hk.elim) (fun _ _ => trivial) ?aO ?aB ?aS ?aL ?_; (case aP => exact k25_mkM _ _ _ (wideP m p)); (case aO => exact Kd.R_drew HO.out); (case aB => exact below_drew HB.out); (case aS => exact HB.out.size); (case aL => have := HL.out; omega); intro v1 w7 ho hb hg7 hat))
      all_goals
        have HO7 := Aside0.mk (show Kd.R k25 25 w7 w6.heap.size (fun _ => True) v1 ((D.take (j + 1)).map (wideP m)) from by rw [hts.out, List.map_append]; exact ho)
        have HB7 := Aside0.mk hb
        clear ho hb hg7 hat d0 d1
        go_wp2
        go_roundw
        case rel => exact ⟨j + 1, by omega, by go_num, HO7.out, HB7.out⟩
        case measure => simp [intOf]; omega
    · have hkl : D.take j = D := List.take_of_length_le (by omega)
      have ho := HO.out
      rw [hkl] at ho
      clear ED
      generalize D.map (wideP m) = wl at *
      obtain ⟨Aw, cw, rfl, hcw, hC⟩ := Kd.R_reads ho
      have hb := HB.out
      clear hkl HO HB ho
      have HB7 := Aside0.mk (below_then HB6.out HB6.out.size hb); have HT7 := Aside0.mk (blk_below HT6.out hb)
      have Cw7 := Aside0.mk hC
      have CD7 := Aside0.mk (Kd.C_below CD6.out hb)
      have Cc7 := Aside0.mk (Kd.C_below Cc6.out hb)
      clear hb HB6 HT6 CD6 Cc6 hC
      have t0 := blk_cell HT7.out 0; have t1 := blk_cell HT7.out 1; have t2 := blk_cell HT7.out 2; have t3 := blk_cell HT7.out 3; have t4 := blk_cell HT7.out 4
      simp at t0 t1 t2 t3 t4
      go_wp2_with fail
      refine (linear_Jump.calls 2 W H T S AD cD D Ac cc c (m : Int) z 0 wo CD7.out hcD Cc7.out hcc J1.out).mono ?_
      rintro e w8 ⟨vx, rfl, hR, hb⟩
      obtain ⟨Ax, cx, rfl, hcx, hC⟩ := Kd.R_reads hR
      clear t0 t1 t2 t3 t4
      have HB8 := Aside0.mk (below_then HB7.out HB7.out.size hb); have HT8 := Aside0.mk (blk_below HT7.out hb)
      have Cx8 := Aside0.mk hC
      have Cw8 := Aside0.mk (Kd.C_below Cw7.out hb)
      have Cc8 := Aside0.mk (Kd.C_below Cc7.out hb)
      clear hb HB7 HT7 Cw7 Cc7 hR hC
      have t0 := blk_cell HT8.out 0; have t1 := blk_cell HT8.out 1; have t2 := blk_cell HT8.out 2; have t3 := blk_cell HT8.out 3; have t4 := blk_cell HT8.out 4
      simp at t0 t1 t2 t3 t4
      go_wp2_with fail
      refine (linear_Next.calls 2 W H T S Aw cw wl Ac cc c z 0 w8 Cw8.out hcw Cc8.out hcc J2.out).mono ?_
      rintro e w9 ⟨vy, rfl, hR, hb⟩
      obtain ⟨Ay, cy, rfl, hcy, hC⟩ := Kd.R_reads hR
      clear t0 t1 t2 t3 t4
      have HB9 := Aside0.mk (below_then HB8.out HB8.out.size hb); have HT9 := Aside0.mk (blk_below HT8.out hb)
      have Cy9 := Aside0.mk hC
      have Cx9 := Aside0.mk (Kd.C_below Cx8.out hb)
      clear hb HB8 HT8 Cx8 hR hC
      go_wp2_with fail
      refine (vivariumlaw17_same.calls 1000 Ax cx z Ay cy z true w9 Cx9.out hcx Cy9.out hcy S2.out).mono ?_
      rintro e w10 ⟨rfl, ⟨n10, rfl⟩⟩
      go_wp2
      go_ret
      exact ⟨rfl, pw_below_drewN HB9.out _⟩
end Go.Proofs.Ytomogkhdfaiekaa.PLin
