/-
  LinearBoth: a product is one rule behind the other, and goes either way round: the plain law, and the law's walk; linear.Next.
-/
import Derived.Test.YtomogkhdfaiekaaHOut
namespace Go.Proofs.Ytomogkhdfaiekaa.PLin
open Go.Proofs.Ytomogkhdfaiekaa.HW Go.Proofs.Ytomogkhdfaiekaa.HSet Go.RowKit Go.Proofs.YtomogkhdfaiekaaW.PrintWords Go.Proofs.YtomogkhdfaiekaaW.PrintLast Go.Proofs.YtomogkhdfaiekaaW.PrintMore
set_option linter.unusedVariables false
set_option linter.unusedSimpArgs false

set_option maxHeartbeats 1000000 in
set_option maxRecDepth 100000 in
theorem linear_Next.calls (K W H T S : Int) (A1 : Option Addr) (c1 : Nat) (D : List S25) (A2 : Option Addr) (c2 : Nat) (L : List S25) (r1 : List S25) (r2 : Int) (w : World)
    (hr1 : Kd.C k25 w A1 D.length D) (hc1 : D.length ≤ c1) (hr2 : Kd.C k25 w A2 L.length L) (hc2 : L.length ≤ c2) (h : linear_Jump.f K W H T S D L 1 = some (r1, r2)) :
    Calls Try.prog 37 #[.agg #[.int .u8 K, .int .i64 W, .int .i64 H, .int .u8 T, .int .i64 S], .slice A1 D.length c1, .slice A2 L.length c2] w fun e w' => ∃ v0_ : Value, e = .returned (.tuple #[v0_, .int .i64 r2]) ∧ Kd.R k25 25 w' w.heap.size (fun _ => True) v0_ r1 ∧ Below w.heap.size w w' := by
  have HJ := Aside0.mk (linear_Jump.calls K W H T S A1 c1 D A2 c2 L 1 r1 r2 (w.alloc (.cells #[.int .u8 K, .int .i64 W, .int .i64 H, .int .u8 T, .int .i64 S] 42)) (Kd.C_alloc hr1 _) hc1 (Kd.C_alloc hr2 _) hc2 h)
  clear hr1 hr2 h
  go_enter Try.func37, Try.ntmps37
  go_wp2_with fail
  refine HJ.out.mono ?_
  rintro e w1 ⟨v, rfl, hR, hb⟩
  obtain ⟨hB, hz, _⟩ := alloc1_below hb
  have HB := Aside0.mk hB
  have HR := Aside0.mk (Kd.R_lower hR (show w.heap.size ≤ (w.alloc (.cells #[.int .u8 K, .int .i64 W, .int .i64 H, .int .u8 T, .int .i64 S] 42)).heap.size by rw [size_alloc]; omega))
  clear hb hB hR HJ
  go_wp2
  go_ret2
  exact ⟨_, rfl, HR.out, HB.out⟩

/-- Behind draws alone. -/
theorem below_of_drawn {w w' : World} {n : Nat} (h : Below (w.drewN n).heap.size (w.drewN n) w') : Below w.heap.size w w' := below_then (pw_below_drewN (Below.refl _ _) n) (Nat.le_refl _) h
theorem par_prods (a b : List S25) (f : S25 → Bool) : par (prods a b) f = par a fun p => par b fun q => f (addP p q) := by
  unfold prods
  rw [par_flatMap]
  exact par_congr fun p _ => by rw [par_map]
theorem mem_prods {a b : List S25} {q : S25} (h : q ∈ prods a b) : ∃ x ∈ a, ∃ y ∈ b, q = addP x y := by
  obtain ⟨x, hx, hq⟩ := List.mem_flatMap.1 h
  obtain ⟨y, hy, rfl⟩ := List.mem_map.1 hq
  exact ⟨x, hx, y, hy, rfl⟩

/-- What two sums make one behind the other. -/
def timesL (a b : List S25) : List S25 := sortP (norm (prods a b))
theorem timesL_comm (a b : List S25) : timesL a b = timesL b a := by
  refine sorted_unique _ _ (((sortP_perm _).trans ?_).trans (sortP_perm _).symm) (sortP_sorted _) (sortP_sorted _)
  refine (List.perm_ext_iff_of_nodup (norm_nodup _) (norm_nodup _)).2 fun q => ?_
  rw [mem_of_par (norm_nodup _) q, mem_of_par (norm_nodup _) q, par_norm, par_norm, par_prods, par_prods, par_swap]
  rw [par_congr fun p _ => par_congr fun r _ => ?_]
  unfold addP
  rw [Int.add_comm p.f0, Int.add_comm p.f1]
theorem timesL_near {a b : List S25} (ha : ∀ p ∈ a, near999 p) (hb : ∀ p ∈ b, near999 p) : ∀ p ∈ timesL a b, nearP p = true := fun p hp => by
  obtain ⟨x, hx, y, hy, rfl⟩ := mem_prods (norm_sub ((sortP_perm _).mem_iff.1 hp))
  have h1 := ha x hx; have h2 := hb y hy
  unfold near999 at h1 h2
  unfold nearP addP
  rw [Bool.and_eq_true, nearN_iff, nearN_iff]
  dsimp only; omega
theorem times_f {a b : List S25} (ca : linear_Check.f a = some 0) (cb : linear_Check.f b = some 0) (ha : ∀ p ∈ a, near999 p) (hb : ∀ p ∈ b, near999 p) : linear_Times.f a b = some (timesL a b, 0) := by
  unfold linear_Times.f
  rw [ca, Option.bind_some, if_pos rfl, cb, Option.bind_some, if_pos rfl, if_pos (show (sortP (norm (prods a b))).all nearP = true from List.all_eq_true.2 (timesL_near ha hb))]; rfl
theorem timesL_length (a b : List S25) : (timesL a b).length ≤ a.length * b.length := by
  unfold timesL
  rw [(sortP_perm _).length_eq, ← prods_length]
  exact norm_length _
theorem timesL_nodup (a b : List S25) : (timesL a b).Nodup := (sortP_perm _).nodup_iff.2 (norm_nodup _)
theorem check_times {a b : List S25} (la : a.length ≤ 8) (lb : b.length ≤ 8) (ha : ∀ p ∈ a, near999 p) (hb : ∀ p ∈ b, near999 p) : linear_Check.f (timesL a b) = some 0 := by
  have h1 := timesL_length a b
  have h2 : a.length * b.length ≤ 8 * 8 := Nat.mul_le_mul la lb
  unfold linear_Check.f
  rw [if_neg (by omega), if_pos (List.all_eq_true.2 (timesL_near ha hb)), if_pos (timesL_nodup a b)]
theorem opA_times (a b : List S25) (G : S25 → Bool) : opA (timesL a b) G = opA b (opA a G) := by
  funext p
  unfold opA timesL
  rw [par_perm (sortP_perm _), par_norm, par_prods, par_swap]
  refine par_congr fun v _ => par_congr fun u _ => ?_
  unfold addP
  dsimp only
  rw [show p.f0 - (u.f0 + v.f0) = p.f0 - v.f0 - u.f0 by omega, show p.f1 - (u.f1 + v.f1) = p.f1 - v.f1 - u.f1 by omega]
theorem both_law {W H T S : Int} (hv : TV W H T S) (a b : List S25) {c : List S25} (hc : c.Nodup) (hh : ∀ p ∈ c, hasB W H p = true) : jumpS W H T S a (jumpS W H T S b c 1) 1 = jumpS W H T S (timesL a b) c 1 := by
  have n1 := jumpS_nodup hv b 1 hc hh
  have e1 := jumpS_home hv b 1 hc hh
  refine eq_of_par hv (jumpS_nodup hv a 1 n1 e1) (jumpS_home hv a 1 n1 e1) (jumpS_nodup hv _ 1 hc hh) (jumpS_home hv _ 1 hc hh) (jumpS_sorted ..) (jumpS_sorted ..) fun G hG => ?_
  rw [par_jumpS hv hG, par_jumpS hv (peri_opN hG a 1), par_jumpS hv hG]
  show par c (opA b (opA a G)) = par c (opA (timesL a b) G)
  rw [opA_times]

set_option maxHeartbeats 1000000 in
set_option maxRecDepth 100000 in
theorem LinearBoth_walk (a0 a1 a2 a3 : Int) (A1 : Option Addr) (c1 : Nat) (l1 : List S25) (A2 : Option Addr) (c2 : Nat) (l2 : List S25) (A3 : Option Addr) (c3 : Nat) (l3 : List S25) (w : World)
    (hr1 : Kd.C k25 w A1 l1.length l1) (hc1 : l1.length ≤ c1) (hr2 : Kd.C k25 w A2 l2.length l2) (hc2 : l2.length ≤ c2) (hr3 : Kd.C k25 w A3 l3.length l3) (hc3 : l3.length ≤ c3) (hl1 : l1.length * 16 ≤ 140737488351232) (hl2 : l2.length * 16 ≤ 140737488351232) (hl3 : l3.length * 16 ≤ 140737488351232) :
    Calls Try.prog 13 #[.agg #[.int .i64 a0, .int .i64 a1, .int .i64 a2, .int .i64 a3], .slice A1 l1.length c1, .slice A2 l2.length c2, .slice A3 l3.length c3] w fun e w' => e = .returned (.bool true) ∧ Below w.heap.size w w' := by
  obtain ⟨W, H, T, S, hT, hW, hH, ht, hc, hv⟩ := topoT_ok a0 a1 a2 a3
  have hmul := small_mul hW hH
  have ca := check_once l1 8 (by omega); have cb := check_once l2 8 (by omega)
  obtain ⟨na, la, ea⟩ := onceL_all l1 8
  obtain ⟨nb, lb, eb⟩ := onceL_all l2 8
  obtain ⟨nc, lc, ec⟩ := cellsL_all hW hH l3
  obtain ⟨k1, h1⟩ := Ev.rounds (ev_once l1 8 (by omega) (by omega))
  obtain ⟨k2, h2⟩ := Ev.rounds (ev_once l2 8 (by omega) (by omega))
  obtain ⟨k3, h3⟩ := Ev.rounds (ev_cells hW hH l3 (by omega) 2 T S)
  generalize onceL l1 8 = a at *
  generalize onceL l2 8 = b at *
  generalize cellsL W H l3 = c at *
  have f1 := times_f ca cb ea eb
  have f2 := times_f cb ca eb ea
  rw [timesL_comm b a] at f2
  have cab := check_times la lb ea eb
  have hlaw := both_law hv a b nc ec
  have j1 := jump_f (W := W) (H := H) (T := T) (S := S) ht hmul (D := b) (L := c) (n := 1) cb nc ec (by omega) (by omega)
  have nx := jumpS_nodup hv b 1 nc ec; have ex := jumpS_home hv b 1 nc ec
  have j2 := jump_f (W := W) (H := H) (T := T) (S := S) ht hmul (D := a) (L := jumpS W H T S b c 1) (n := 1) ca nx ex (by omega) (by omega)
  have j3 := jump_f (W := W) (H := H) (T := T) (S := S) ht hmul (D := timesL a b) (L := c) (n := 1) cab nc ec (by omega) (by omega)
  rw [show (1 : Int).toNat = 1 from rfl] at j1 j2 j3
  rw [hlaw] at j2
  have lz := home_len hW hH (jumpS_nodup hv (timesL a b) 1 nc ec) (jumpS_home hv (timesL a b) 1 nc ec)
  have lab := timesL_length a b
  have lab2 : a.length * b.length ≤ 8 * 8 := Nat.mul_le_mul la lb
  generalize jumpS W H T S b c 1 = x at *
  generalize jumpS W H T S (timesL a b) c 1 = z at *
  generalize timesL a b = ab at *
  have HT0 := Aside0.mk (show vivariumlaw17_Torus_topo.f a0 a1 a2 a3 = some (2, W, H, T, S) from congrArg some hT)
  have H1 := Aside0.mk h1; have H2 := Aside0.mk h2; have H3 := Aside0.mk h3
  have F1 := Aside0.mk f1; have F2 := Aside0.mk f2; have J1 := Aside0.mk j1; have J2 := Aside0.mk j2; have J3 := Aside0.mk j3
  have S1 := Aside0.mk (same_eq (l := ab) (m := ab) (k := 100) (by omega) (by omega)); have S2 := Aside0.mk (same_eq (l := z) (m := z) (k := 1000) (by omega) (by omega))
  rw [decide_eq_true rfl] at S1 S2
  have R1 := Aside0.mk hr1; have R2 := Aside0.mk hr2; have R3 := Aside0.mk hr3
  clear hT hW hH ht hc hv hmul ca cb na la ea nb lb eb nc lc ec h1 h2 h3 f1 f2 cab hlaw j1 j2 j3 nx ex lz lab lab2 hr1 hr2 hr3
  go_enter Try.func13, Try.ntmps13
  go_wp2_with fail
  refine (alive_walk _).mono ?_
  rintro e w1 ⟨rfl, hb1⟩
  obtain ⟨hB, hz1, B0⟩ := alloc1_below hb1
  have HB1 := Aside0.mk hB
  have t0 := blk_cell B0 0; have t1 := blk_cell B0 1; have t2 := blk_cell B0 2; have t3 := blk_cell B0 3
  simp at t0 t1 t2 t3
  clear hb1 hB B0
  go_wp2_with fail
  refine (vivariumlaw17_Torus_topo.calls a0 a1 a2 a3 2 W H T S _ HT0.out).mono ?_
  rintro e w2 ⟨rfl, hb2⟩
  have hz2 := hb2.size
  have HB2 := Aside0.mk (below_then HB1.out (by omega) hb2)
  clear hb2 HB1 t0 t1 t2 t3 HT0
  go_wp2_with fail
  have HB3 := Aside0.mk (below_alloc HB2.out (.cells #[.int .u8 2, .int .i64 W, .int .i64 H, .int .u8 T, .int .i64 S] 42))
  have HT3 := Aside0.mk (alloc_new w2 (.cells #[.int .u8 2, .int .i64 W, .int .i64 H, .int .u8 T, .int .i64 S] 42))
  have hz3 := size_alloc w2 (.cells #[.int .u8 2, .int .i64 W, .int .i64 H, .int .u8 T, .int .i64 S] 42)
  generalize w2.alloc (.cells #[.int .u8 2, .int .i64 W, .int .i64 H, .int .u8 T, .int .i64 S] 42) = w3 at *
  have hg : w.heap.size < w2.heap.size := by omega
  have hz3' : w2.heap.size < w3.heap.size := by omega
  generalize w2.heap.size = g at *
  clear hz3 HB2 hz1 hz2
  refine (vivariumlaw17_once.calls k1 A1 c1 l1 8 a w3 (Kd.C_below R1.out HB3.out) hc1 H1.out).mono ?_
  rintro e w4 ⟨va, rfl, hR, hb⟩
  obtain ⟨Aa, ca, rfl, hca, hC⟩ := Kd.R_reads hR
  have HB4 := Aside0.mk (below_then HB3.out HB3.out.size hb); have HT4 := Aside0.mk (blk_below HT3.out hb)
  have Ca4 := Aside0.mk hC
  clear hb HB3 HT3 hR hC
  go_wp2_with fail
  refine (vivariumlaw17_once.calls k2 A2 c2 l2 8 b w4 (Kd.C_below R2.out HB4.out) hc2 H2.out).mono ?_
  rintro e w5 ⟨vb, rfl, hR, hb⟩
  obtain ⟨Ab, cb, rfl, hcb, hC⟩ := Kd.R_reads hR
  have HB5 := Aside0.mk (below_then HB4.out HB4.out.size hb); have HT5 := Aside0.mk (blk_below HT4.out hb)
  have Cb5 := Aside0.mk hC
  have Ca5 := Aside0.mk (Kd.C_below Ca4.out hb)
  clear hb HB4 HT4 Ca4 hR hC
  have t0 := blk_cell HT5.out 0; have t1 := blk_cell HT5.out 1; have t2 := blk_cell HT5.out 2; have t3 := blk_cell HT5.out 3; have t4 := blk_cell HT5.out 4
  simp at t0 t1 t2 t3 t4
  go_wp2_with fail
  refine (vivariumlaw17_cells.calls k3 2 W H T S A3 c3 l3 c w5 (Kd.C_below R3.out HB5.out) hc3 H3.out).mono ?_
  rintro e w6 ⟨vc, rfl, hR, hb⟩
  obtain ⟨Ac, cc, rfl, hcc, hC⟩ := Kd.R_reads hR
  clear t0 t1 t2 t3 t4
  have HB6 := Aside0.mk (below_then HB5.out HB5.out.size hb); have HT6 := Aside0.mk (blk_below HT5.out hb)
  have Cc6 := Aside0.mk hC
  have Ca6 := Aside0.mk (Kd.C_below Ca5.out hb)
  have Cb6 := Aside0.mk (Kd.C_below Cb5.out hb)
  clear hb HB5 HT5 Ca5 Cb5 hR hC
  go_wp2_with fail
  refine (linear_Times.calls Aa ca a Ab cb b ab 0 w6 Ca6.out hca Cb6.out hcb F1.out).mono ?_
  rintro e w7 ⟨vab, rfl, hR, hb⟩
  obtain ⟨Aab, cab, rfl, hcab, hC⟩ := Kd.R_reads hR
  have HB7 := Aside0.mk (below_then HB6.out HB6.out.size hb); have HT7 := Aside0.mk (blk_below HT6.out hb)
  have Cab7 := Aside0.mk hC
  have Ca7 := Aside0.mk (Kd.C_below Ca6.out hb)
  have Cb7 := Aside0.mk (Kd.C_below Cb6.out hb)
  have Cc7 := Aside0.mk (Kd.C_below Cc6.out hb)
  clear hb HB6 HT6 Ca6 Cb6 Cc6 hR hC
  go_wp2_with fail
  refine (linear_Times.calls Ab cb b Aa ca a ab 0 w7 Cb7.out hcb Ca7.out hca F2.out).mono ?_
  rintro e w8 ⟨vba, rfl, hR, hb⟩
  obtain ⟨Aba, cba, rfl, hcba, hC⟩ := Kd.R_reads hR
  have HB8 := Aside0.mk (below_then HB7.out HB7.out.size hb); have HT8 := Aside0.mk (blk_below HT7.out hb)
  have Cba8 := Aside0.mk hC
  have Ca8 := Aside0.mk (Kd.C_below Ca7.out hb)
  have Cb8 := Aside0.mk (Kd.C_below Cb7.out hb)
  have Cc8 := Aside0.mk (Kd.C_below Cc7.out hb)
  have Cab8 := Aside0.mk (Kd.C_below Cab7.out hb)
  clear hb HB7 HT7 Ca7 Cb7 Cc7 Cab7 hR hC
  have t0 := blk_cell HT8.out 0; have t1 := blk_cell HT8.out 1; have t2 := blk_cell HT8.out 2; have t3 := blk_cell HT8.out 3; have t4 := blk_cell HT8.out 4
  simp at t0 t1 t2 t3 t4
  go_wp2_with fail
  refine (linear_Next.calls 2 W H T S Ab cb b Ac cc c x 0 w8 Cb8.out hcb Cc8.out hcc J1.out).mono ?_
  rintro e w9 ⟨vx, rfl, hR, hb⟩
  obtain ⟨Ax, cx, rfl, hcx, hC⟩ := Kd.R_reads hR
  clear t0 t1 t2 t3 t4
  have HB9 := Aside0.mk (below_then HB8.out HB8.out.size hb); have HT9 := Aside0.mk (blk_below HT8.out hb)
  have Cx9 := Aside0.mk hC
  have Ca9 := Aside0.mk (Kd.C_below Ca8.out hb)
  have Cb9 := Aside0.mk (Kd.C_below Cb8.out hb)
  have Cc9 := Aside0.mk (Kd.C_below Cc8.out hb)
  have Cab9 := Aside0.mk (Kd.C_below Cab8.out hb)
  have Cba9 := Aside0.mk (Kd.C_below Cba8.out hb)
  clear hb HB8 HT8 Ca8 Cb8 Cc8 Cab8 Cba8 hR hC
  have t0 := blk_cell HT9.out 0; have t1 := blk_cell HT9.out 1; have t2 := blk_cell HT9.out 2; have t3 := blk_cell HT9.out 3; have t4 := blk_cell HT9.out 4
  simp at t0 t1 t2 t3 t4
  go_wp2_with fail
  refine (linear_Next.calls 2 W H T S Aa ca a Ax cx x z 0 w9 Ca9.out hca Cx9.out hcx J2.out).mono ?_
  rintro e w10 ⟨vy, rfl, hR, hb⟩
  obtain ⟨Ay, cy, rfl, hcy, hC⟩ := Kd.R_reads hR
  clear t0 t1 t2 t3 t4
  have HB10 := Aside0.mk (below_then HB9.out HB9.out.size hb); have HT10 := Aside0.mk (blk_below HT9.out hb)
  have Cy10 := Aside0.mk hC
  have Ca10 := Aside0.mk (Kd.C_below Ca9.out hb)
  have Cb10 := Aside0.mk (Kd.C_below Cb9.out hb)
  have Cc10 := Aside0.mk (Kd.C_below Cc9.out hb)
  have Cab10 := Aside0.mk (Kd.C_below Cab9.out hb)
  have Cba10 := Aside0.mk (Kd.C_below Cba9.out hb)
  clear hb HB9 HT9 Ca9 Cb9 Cc9 Cab9 Cba9 hR hC
  have t0 := blk_cell HT10.out 0; have t1 := blk_cell HT10.out 1; have t2 := blk_cell HT10.out 2; have t3 := blk_cell HT10.out 3; have t4 := blk_cell HT10.out 4
  simp at t0 t1 t2 t3 t4
  go_wp2_with fail
  refine (linear_Next.calls 2 W H T S Aab cab ab Ac cc c z 0 w10 Cab10.out hcab Cc10.out hcc J3.out).mono ?_
  rintro e w11 ⟨vz, rfl, hR, hb⟩
  obtain ⟨Az, cz, rfl, hcz, hC⟩ := Kd.R_reads hR
  clear t0 t1 t2 t3 t4
  have HB11 := Aside0.mk (below_then HB10.out HB10.out.size hb); have HT11 := Aside0.mk (blk_below HT10.out hb)
  have Cz11 := Aside0.mk hC
  have Cab11 := Aside0.mk (Kd.C_below Cab10.out hb)
  have Cba11 := Aside0.mk (Kd.C_below Cba10.out hb)
  have Cy11 := Aside0.mk (Kd.C_below Cy10.out hb)
  clear hb HB10 HT10 Cab10 Cba10 Cy10 hR hC
  go_wp2_with fail
  refine (vivariumlaw17_same.calls 100 Aab cab ab Aba cba ab true w11 Cab11.out hcab Cba11.out hcba S1.out).mono ?_
  rintro e w12 ⟨rfl, ⟨n12, rfl⟩⟩
  go_wp2_with fail
  refine (vivariumlaw17_same.calls 1000 Ay cy z Az cz z true _ (Kd.C_drewN Cy11.out _) hcy (Kd.C_drewN Cz11.out _) hcz S2.out).mono ?_
  rintro e w13 ⟨rfl, ⟨n13, rfl⟩⟩
  go_wp2
  go_ret
  exact ⟨rfl, pw_below_drewN HB11.out _⟩
end Go.Proofs.Ytomogkhdfaiekaa.PLin
