/-
  LinearSums: what two patterns make together: the plain law, and the law's walk.
-/
import Derived.Test.YtomogkhdfaiekaaHOut
namespace Go.Proofs.Ytomogkhdfaiekaa.PLin
open Go.Proofs.Ytomogkhdfaiekaa.HW Go.Proofs.Ytomogkhdfaiekaa.HSet Go.RowKit Go.Proofs.YtomogkhdfaiekaaW.PrintWords Go.Proofs.YtomogkhdfaiekaaW.PrintLast Go.Proofs.YtomogkhdfaiekaaW.PrintMore
set_option linter.unusedVariables false
set_option linter.unusedSimpArgs false

theorem par_is {l : List S25} (h : l.Nodup) (q : S25) : par l (fun p => decide (p = q)) = decide (q ∈ l) := by
  rw [Bool.eq_iff_iff, decide_eq_true_eq]; exact (mem_of_par h q).symm
theorem mem_either (a b : List S25) (q : S25) : q ∈ eitherL a b ↔ (q ∈ a ∧ q ∉ b) ∨ (q ∈ b ∧ q ∉ a) := by
  unfold eitherL
  simp [List.mem_append, List.mem_filter]
theorem either_nodup {a b : List S25} (ha : a.Nodup) (hb : b.Nodup) : (eitherL a b).Nodup := by
  unfold eitherL
  refine List.nodup_append.2 ⟨ha.sublist List.filter_sublist, hb.sublist List.filter_sublist, fun x hx y hy e => ?_⟩
  subst e
  simp [List.mem_filter] at hx hy
  exact hx.2 hy.1
theorem either_perm {a b : List S25} (ha : a.Nodup) (hb : b.Nodup) : (eitherL a b).Perm (norm (a ++ b)) :=
  (List.perm_ext_iff_of_nodup (either_nodup ha hb) (norm_nodup _)).2 fun q => by
    rw [mem_either, mem_of_par (norm_nodup _) q, par_norm, par_append, par_is ha, par_is hb]
    by_cases h1 : q ∈ a <;> by_cases h2 : q ∈ b <;> simp [h1, h2]
theorem par_either {a b : List S25} (ha : a.Nodup) (hb : b.Nodup) (f : S25 → Bool) : par (eitherL a b) f = (par a f ^^ par b f) := by
  rw [par_perm (either_perm ha hb), par_norm, par_append]

def allC (W H : Int) : List S25 := (List.range W.toNat).flatMap fun (i : Nat) => (List.range H.toNat).map fun (j : Nat) => (⟨(i : Int) - W / 2, (j : Int) - H / 2⟩ : S25)
theorem allC_length (W H : Int) : (allC W H).length = W.toNat * H.toNat := by
  unfold allC
  rw [List.length_flatMap]
  simp [List.map_const']
theorem mem_allC {W H : Int} {p : S25} (h : hasB W H p = true) : p ∈ allC W H := by
  unfold hasB at h
  rw [Bool.and_eq_true, decide_eq_true_eq, decide_eq_true_eq] at h
  refine List.mem_flatMap.2 ⟨(p.f0 + W / 2).toNat, List.mem_range.2 (by omega), List.mem_map.2 ⟨(p.f1 + H / 2).toNat, List.mem_range.2 (by omega), ?_⟩⟩
  rw [S25.ext_iff']
  dsimp only; omega
theorem home_length {W H : Int} {l : List S25} (h : l.Nodup) (hh : ∀ p ∈ l, hasB W H p = true) : l.length ≤ W.toNat * H.toNat := by
  rw [← allC_length W H]
  exact len_sub l _ h fun p hp => mem_allC (hh p hp)
theorem small_length {W H : Int} (hw : 1 ≤ W ∧ W ≤ 12) (hh : 1 ≤ H ∧ H ≤ 12) {l : List S25} (h : l.Nodup) (hl : ∀ p ∈ l, hasB W H p = true) : l.length ≤ 144 := by
  have h1 := home_length h hl
  have h2 : W.toNat * H.toNat ≤ 12 * 12 := Nat.mul_le_mul (by omega) (by omega)
  omega

/-- What is in just one of two patterns. -/
theorem sums_law {W H T S : Int} (hv : TV W H T S) (D : List S25) {a b : List S25} (ha : a.Nodup) (hah : ∀ p ∈ a, hasB W H p = true) (hb : b.Nodup) (hbh : ∀ p ∈ b, hasB W H p = true) (n : Nat) :
    (jumpS W H T S D (eitherL a b) n).Perm (eitherL (jumpS W H T S D a n) (jumpS W H T S D b n)) := by
  have hm : ∀ x y : List S25, (∀ p ∈ x, hasB W H p = true) → (∀ p ∈ y, hasB W H p = true) → ∀ p ∈ eitherL x y, hasB W H p = true := fun x y hx hy p hp => by
    rcases (mem_either x y p).1 hp with h | h
    · exact hx p h.1
    · exact hy p h.1
  have na := jumpS_nodup hv D n ha hah; have nb := jumpS_nodup hv D n hb hbh
  have ea := jumpS_home hv D n ha hah; have eb := jumpS_home hv D n hb hbh
  have ne := either_nodup ha hb
  have he := hm a b hah hbh
  refine perm_of_par hv (jumpS_nodup hv D n ne he) (jumpS_home hv D n ne he) (either_nodup na nb) (hm _ _ ea eb) fun G hG => ?_
  rw [par_jumpS hv hG, par_either ha hb, par_either na nb, par_jumpS hv hG, par_jumpS hv hG]

set_option maxHeartbeats 1000000 in
set_option maxRecDepth 100000 in
theorem LinearSums_walk (a0 a1 a2 a3 : Int) (A1 : Option Addr) (c1 : Nat) (l1 : List S25) (A2 : Option Addr) (c2 : Nat) (l2 : List S25) (A3 : Option Addr) (c3 : Nat) (l3 : List S25) (n : Int) (w : World)
    (hr1 : Kd.C k25 w A1 l1.length l1) (hc1 : l1.length ≤ c1) (hr2 : Kd.C k25 w A2 l2.length l2) (hc2 : l2.length ≤ c2) (hr3 : Kd.C k25 w A3 l3.length l3) (hc3 : l3.length ≤ c3) (hl1 : l1.length * 16 ≤ 140737488351232) (hl2 : l2.length * 16 ≤ 140737488351232) (hl3 : l3.length * 16 ≤ 140737488351232) :
    Calls Try.prog 8 #[.agg #[.int .i64 a0, .int .i64 a1, .int .i64 a2, .int .i64 a3], .slice A1 l1.length c1, .slice A2 l2.length c2, .slice A3 l3.length c3, .int .i64 n] w fun e w' => e = .returned (.bool true) ∧ Below w.heap.size w w' := by
  obtain ⟨W, H, T, S, hT, hW, hH, ht, hc, hv⟩ := topoT_ok a0 a1 a2 a3
  have hmul := small_mul hW hH
  have q0 := Int.emod_nonneg n (show (1125899906842624 : Int) ≠ 0 by omega); have q1 := Int.emod_lt_of_pos n (show (0 : Int) < 1125899906842624 by omega)
  have hD := check_once l1 12 (by omega)
  have hDn := onceL_all l1 12
  obtain ⟨na, la, ea⟩ := cellsL_all hW hH l2
  obtain ⟨nb, lb, eb⟩ := cellsL_all hW hH l3
  obtain ⟨k1, h1⟩ := Ev.rounds (ev_once l1 12 (by omega) (by omega))
  obtain ⟨k2, h2⟩ := Ev.rounds (ev_cells hW hH l2 (by omega) 2 T S)
  obtain ⟨k3, h3⟩ := Ev.rounds (ev_cells hW hH l3 (by omega) 2 T S)
  have hm : ∀ x y : List S25, (∀ p ∈ x, hasB W H p = true) → (∀ p ∈ y, hasB W H p = true) → ∀ p ∈ eitherL x y, hasB W H p = true := fun x y hx hy p hp => by
    rcases (mem_either x y p).1 hp with h | h
    · exact hx p h.1
    · exact hy p h.1
  generalize onceL l1 12 = D at *
  generalize cellsL W H l2 = a at *
  generalize cellsL W H l3 = b at *
  have ne := either_nodup na nb
  have ee := hm a b ea eb
  have hlaw := sums_law hv D na ea nb eb (n % 1125899906842624).toNat
  have hjx := jump_f (W := W) (H := H) (T := T) (S := S) ht hmul (D := D) (L := a) (n := n % 1125899906842624) hD na ea q0 (by omega)
  have hjy := jump_f (W := W) (H := H) (T := T) (S := S) ht hmul (D := D) (L := b) (n := n % 1125899906842624) hD nb eb q0 (by omega)
  have hjz := jump_f (W := W) (H := H) (T := T) (S := S) ht hmul (D := D) (L := eitherL a b) (n := n % 1125899906842624) hD ne ee q0 (by omega)
  have nx := jumpS_nodup hv D (n % 1125899906842624).toNat na ea; have ny := jumpS_nodup hv D (n % 1125899906842624).toNat nb eb
  have ex := jumpS_home hv D (n % 1125899906842624).toNat na ea; have ey := jumpS_home hv D (n % 1125899906842624).toNat nb eb
  have lx := small_length hW hH nx ex; have ly := small_length hW hH ny ey
  have lz := small_length hW hH (jumpS_nodup hv D (n % 1125899906842624).toNat ne ee) (jumpS_home hv D (n % 1125899906842624).toNat ne ee)
  generalize jumpS W H T S D a (n % 1125899906842624).toNat = x at *
  generalize jumpS W H T S D b (n % 1125899906842624).toNat = y at *
  generalize jumpS W H T S D (eitherL a b) (n % 1125899906842624).toNat = z at *
  have lxy := small_length hW hH (either_nodup nx ny) (hm x y ex ey)
  obtain ⟨k4, h4⟩ := Ev.rounds (ev_either a b (by omega) (by omega))
  obtain ⟨k5, h5⟩ := Ev.rounds (ev_either x y (by omega) (by omega))
  obtain ⟨k6, h6⟩ := Ev.rounds (ev_alike z (eitherL x y) (by omega) (by omega) hlaw)
  have HT0 := Aside0.mk (show vivariumlaw17_Torus_topo.f a0 a1 a2 a3 = some (2, W, H, T, S) from congrArg some hT)
  have H1 := Aside0.mk h1; have H2 := Aside0.mk h2; have H3 := Aside0.mk h3; have H4 := Aside0.mk h4; have H5 := Aside0.mk h5; have H6 := Aside0.mk h6
  have HX := Aside0.mk hjx; have HY := Aside0.mk hjy; have HZ := Aside0.mk hjz
  have HU := Aside0.mk (fun w => up_calls n 1125899906842624 (by omega) (by omega) w)
  have R1 := Aside0.mk hr1; have R2 := Aside0.mk hr2; have R3 := Aside0.mk hr3
  clear hT hW hH ht hc hv hmul hD hDn na la ea nb lb eb h1 h2 h3 h4 h5 h6 hm ne ee hlaw hjx hjy hjz nx ny ex ey lx ly lz lxy hr1 hr2 hr3
  generalize n % 1125899906842624 = far at *
  go_enter Try.func8, Try.ntmps8
  go_wp2_with fail
  refine (alive_walk _).mono ?_
  rintro e w1 ⟨rfl, hb1⟩
  obtain ⟨hB, hz1, B0⟩ := alloc1_below hb1
  have HB1 := Aside0.mk hB
  have t0 := blk_cell B0 0; have t1 := blk_cell B0 1; have t2 := blk_cell B0 2; have t3 := blk_cell B0 3
  simp at t0 t1 t2 t3
  clear hb1 hB B0
  go_wp2_with fail
  refine (vivariumlaw17_Torus_topo.calls a0 a1 a2 a3 2 W H T S _ HT0.out).mono ?_
  rintro e w2 ⟨rfl, hb2⟩
  have hz2 := hb2.size
  have HB2 := Aside0.mk (below_then HB1.out (by omega) hb2)
  clear hb2 HB1 t0 t1 t2 t3 HT0
  go_wp2_with fail
  have HB3 := Aside0.mk (below_alloc HB2.out (.cells #[.int .u8 2, .int .i64 W, .int .i64 H, .int .u8 T, .int .i64 S] 42))
  have HT3 := Aside0.mk (alloc_new w2 (.cells #[.int .u8 2, .int .i64 W, .int .i64 H, .int .u8 T, .int .i64 S] 42))
  have hz3 := size_alloc w2 (.cells #[.int .u8 2, .int .i64 W, .int .i64 H, .int .u8 T, .int .i64 S] 42)
  generalize w2.alloc (.cells #[.int .u8 2, .int .i64 W, .int .i64 H, .int .u8 T, .int .i64 S] 42) = w3 at *
  have hg : w.heap.size < w2.heap.size := by omega
  have hz3' : w2.heap.size < w3.heap.size := by omega
  generalize w2.heap.size = g at *
  clear hz3 HB2 hz1 hz2
  refine (vivariumlaw17_once.calls k1 A1 c1 l1 12 D w3 (Kd.C_below R1.out HB3.out) hc1 H1.out).mono ?_
  rintro e w4 ⟨vD, rfl, hR, hb⟩
  obtain ⟨AD, cD, rfl, hcD, hC⟩ := Kd.R_reads hR
  have HB4 := Aside0.mk (below_then HB3.out HB3.out.size hb); have HT4 := Aside0.mk (blk_below HT3.out hb)
  have CD4 := Aside0.mk hC
  clear hb HB3 HT3 hR hC
  have t0 := blk_cell HT4.out 0; have t1 := blk_cell HT4.out 1; have t2 := blk_cell HT4.out 2; have t3 := blk_cell HT4.out 3; have t4 := blk_cell HT4.out 4
  simp at t0 t1 t2 t3 t4
  go_wp2_with fail
  refine (vivariumlaw17_cells.calls k2 2 W H T S A2 c2 l2 a w4 (Kd.C_below R2.out HB4.out) hc2 H2.out).mono ?_
  rintro e w5 ⟨va, rfl, hR, hb⟩
  obtain ⟨Aa, ca, rfl, hca, hC⟩ := Kd.R_reads hR
  clear t0 t1 t2 t3 t4
  have HB5 := Aside0.mk (below_then HB4.out HB4.out.size hb); have HT5 := Aside0.mk (blk_below HT4.out hb)
  have Ca5 := Aside0.mk hC
  have CD5 := Aside0.mk (Kd.C_below CD4.out hb)
  clear hb HB4 HT4 CD4 hR hC
  have t0 := blk_cell HT5.out 0; have t1 := blk_cell HT5.out 1; have t2 := blk_cell HT5.out 2; have t3 := blk_cell HT5.out 3; have t4 := blk_cell HT5.out 4
  simp at t0 t1 t2 t3 t4
  go_wp2_with fail
  refine (vivariumlaw17_cells.calls k3 2 W H T S A3 c3 l3 b w5 (Kd.C_below R3.out HB5.out) hc3 H3.out).mono ?_
  rintro e w6 ⟨vb, rfl, hR, hb⟩
  obtain ⟨Ab, cb, rfl, hcb, hC⟩ := Kd.R_reads hR
  clear t0 t1 t2 t3 t4
  have HB6 := Aside0.mk (below_then HB5.out HB5.out.size hb); have HT6 := Aside0.mk (blk_below HT5.out hb)
  have Cb6 := Aside0.mk hC
  have CD6 := Aside0.mk (Kd.C_below CD5.out hb)
  have Ca6 := Aside0.mk (Kd.C_below Ca5.out hb)
  clear hb HB5 HT5 CD5 Ca5 hR hC
  go_wp2_with fail
  refine (HU.out _).mono ?_
  rintro e w7 ⟨rfl, ⟨n7, rfl⟩⟩
  have hb := pw_below_drewN (Below.refl w6.heap.size w6) n7
  generalize w6.drewN n7 = w7 at *
  have HB7 := Aside0.mk (below_then HB6.out HB6.out.size hb); have HT7 := Aside0.mk (blk_below HT6.out hb)
  have CD7 := Aside0.mk (Kd.C_below CD6.out hb)
  have Ca7 := Aside0.mk (Kd.C_below Ca6.out hb)
  have Cb7 := Aside0.mk (Kd.C_below Cb6.out hb)
  clear hb HB6 HT6 CD6 Ca6 Cb6
  have t0 := blk_cell HT7.out 0; have t1 := blk_cell HT7.out 1; have t2 := blk_cell HT7.out 2; have t3 := blk_cell HT7.out 3; have t4 := blk_cell HT7.out 4
  simp at t0 t1 t2 t3 t4
  go_wp2_with fail
  refine (linear_Jump.calls 2 W H T S AD cD D Aa ca a far x 0 w7 CD7.out hcD Ca7.out hca HX.out).mono ?_
  rintro e w8 ⟨vx, rfl, hR, hb⟩
  obtain ⟨Ax, cx, rfl, hcx, hC⟩ := Kd.R_reads hR
  clear t0 t1 t2 t3 t4
  have HB8 := Aside0.mk (below_then HB7.out HB7.out.size hb); have HT8 := Aside0.mk (blk_below HT7.out hb)
  have Cx8 := Aside0.mk hC
  have CD8 := Aside0.mk (Kd.C_below CD7.out hb)
  have Ca8 := Aside0.mk (Kd.C_below Ca7.out hb)
  have Cb8 := Aside0.mk (Kd.C_below Cb7.out hb)
  clear hb HB7 HT7 CD7 Ca7 Cb7 hR hC
  have t0 := blk_cell HT8.out 0; have t1 := blk_cell HT8.out 1; have t2 := blk_cell HT8.out 2; have t3 := blk_cell HT8.out 3; have t4 := blk_cell HT8.out 4
  simp at t0 t1 t2 t3 t4
  go_wp2_with fail
  refine (linear_Jump.calls 2 W H T S AD cD D Ab cb b far y 0 w8 CD8.out hcD Cb8.out hcb HY.out).mono ?_
  rintro e w9 ⟨vy, rfl, hR, hb⟩
  obtain ⟨Ay, cy, rfl, hcy, hC⟩ := Kd.R_reads hR
  clear t0 t1 t2 t3 t4
  have HB9 := Aside0.mk (below_then HB8.out HB8.out.size hb); have HT9 := Aside0.mk (blk_below HT8.out hb)
  have Cy9 := Aside0.mk hC
  have CD9 := Aside0.mk (Kd.C_below CD8.out hb)
  have Ca9 := Aside0.mk (Kd.C_below Ca8.out hb)
  have Cb9 := Aside0.mk (Kd.C_below Cb8.out hb)
  have Cx9 := Aside0.mk (Kd.C_below Cx8.out hb)
  clear hb HB8 HT8 CD8 Ca8 Cb8 Cx8 hR hC
  have t0 := blk_cell HT9.out 0; have t1 := blk_cell HT9.out 1; have t2 := blk_cell HT9.out 2; have t3 := blk_cell HT9.out 3; have t4 := blk_cell HT9.out 4
  simp at t0 t1 t2 t3 t4
  have hzg : g < w9.heap.size := blk_lt HT9.out
  go_wp2_with fail
  go_region_held3 (fun w' => w'.cell? ⟨g, 0, none⟩ = some (.int .u8 2) ∧ w'.cell? ⟨g, 1, none⟩ = some (.int .i64 W) ∧ w'.cell? ⟨g, 2, none⟩ = some (.int .i64 H) ∧ w'.cell? ⟨g, 3, none⟩ = some (.int .u8 T) ∧ w'.cell? ⟨g, 4, none⟩ = some (.int .i64 S))
    (first | go_keep | (have hq := (bcell hb10).1; go_split_ands; (refine ⟨?_, ?_, ?_, ?_, ?_⟩) <;> exact (hq _ _ hzg).trans (by assumption)) | (have hq := (bcell hb11).1; go_split_ands; (refine ⟨?_, ?_, ?_, ?_, ?_⟩) <;> exact (hq _ _ hzg10).trans (by assumption)))
    (first | (go_at_call 34; refine (vivariumlaw17_either.calls k4 Aa ca a Ab cb b (eitherL a b) _ (Kd.C_drew Ca9.out) hca (Kd.C_drew Cb9.out) hcb H4.out).mono ?_; rintro e w10 ⟨ve, rfl, hR10, hb10⟩; obtain ⟨Ae, ce, rfl, hce, hCe⟩ := Kd.R_reads hR10; have hzg10 : g < w10.heap.size := Nat.lt_of_lt_of_le hzg hb10.size)
           | (go_at_call 25; refine (linear_Jump.calls 2 W H T S AD cD D Ae ce _ far z 0 _ (Kd.C_below (Kd.C_drew CD9.out) hb10) hcD hCe hce HZ.out).mono ?_; rintro e w11 ⟨vz, rfl, hR11, hb11⟩; obtain ⟨Az, cz, rfl, hcz, hCz⟩ := Kd.R_reads hR11))
  clear t0 t1 t2 t3 t4
  have hz10 := hb10.size; have hz11 := hb11.size
  have HBx := Aside0.mk (below_then (below_then (below_drew HB9.out) HB9.out.size hb10) (by have := HB9.out.size; omega) hb11)
  have Cx11 := Aside0.mk (Kd.C_below (Kd.C_below (Kd.C_drew Cx9.out) hb10) hb11); have Cy11 := Aside0.mk (Kd.C_below (Kd.C_below (Kd.C_drew Cy9.out) hb10) hb11); have Cz11 := Aside0.mk hCz
  clear hb10 hb11 HB9 HT9 CD9 Ca9 Cb9 Cx9 Cy9 hR10 hR11 hCe hCz
  go_wp2_with fail
  refine (vivariumlaw17_either.calls k5 Ax cx x Ay cy y (eitherL x y) w11 Cx11.out hcx Cy11.out hcy H5.out).mono ?_
  rintro e w12 ⟨ve, rfl, hR, hb⟩
  obtain ⟨Af, cf, rfl, hcf, hC⟩ := Kd.R_reads hR
  have HBy := Aside0.mk (below_then HBx.out HBx.out.size hb)
  have Cz12 := Aside0.mk (Kd.C_below Cz11.out hb)
  have Cf12 := Aside0.mk hC
  clear hb HBx Cx11 Cy11 Cz11 hR hC
  go_wp2_with fail
  refine (vivariumlaw17_alike.calls k6 Az cz z Af cf (eitherL x y) true w12 Cz12.out hcz Cf12.out hcf H6.out).mono ?_
  rintro e w13 ⟨rfl, hb⟩
  have HBz := Aside0.mk (below_then HBy.out HBy.out.size hb)
  clear hb HBy
  go_wp2
  go_ret
  exact ⟨rfl, HBz.out⟩
end Go.Proofs.Ytomogkhdfaiekaa.PLin
