-- MADE by a program of this session (the kit's printer, taught externals): not typed by hand.
import Derived.Test.YtomogkhdfaiekaaPLinx0
import Derived.Test.YtomogkhdfaiekaaPLinx14
import Derived.Test.YtomogkhdfaiekaaHCheck
namespace Go.Proofs.Ytomogkhdfaiekaa.PLin
open Go.RowKit Go.Proofs.YtomogkhdfaiekaaW.PrintWords Go.Proofs.YtomogkhdfaiekaaW.PrintLast Go.Proofs.YtomogkhdfaiekaaW.PrintMore
attribute [local go_sem] max2_int min2_int max_two min_two max_three min_three max_four min_four   -- for this text's walks alone
set_option linter.unusedVariables false
set_option linter.unusedSimpArgs false

/-! ### vivariumlaw17_LinearNames: function 3 -/
def vivariumlaw17_LinearNames.l0 : Nat → Bool → List (S25) → Int → Option (Bool)
  | 0, _, _, _ => none
  | k + 1, x1, x2, x3 => if x3 < 65 then (if x2.length < 8796093022208 then (vivariumlaw17_LinearNames.l0 k x1 (x2 ++ [(⟨x3, wrap64 (-x3)⟩ : S25)]) (wrap64 (x3 + 1))) else (none)) else (if x1 = true then (if 64 ≤ (x2.length : Int) then ((linear_Check.f (x2.take 64)).bind fun t213 => (if t213 = 0 then ((linear_Check.f x2).bind fun t214 => (if t214 = 6 then ((linear_Check.f ([] : List (S25))).bind fun t215 => (some (t215 == 0))) else (some false))) else (some false))) else (none)) else (some false))
def vivariumlaw17_LinearNames.f (k : Nat)  : Option (Bool) := (vivariumlaw17_alive.f k).bind fun t205 => (vivariumlaw17_LinearNames.l0 k t205 ([] : List (S25)) 0)
theorem vivariumlaw17_LinearNames.mono_l : ∀ k, (∀ y0 y1 y2, LeO (vivariumlaw17_LinearNames.l0 k y0 y1 y2) (vivariumlaw17_LinearNames.l0 (k + 1) y0 y1 y2))
  | 0 => fun _ _ _ r h => by simp [vivariumlaw17_LinearNames.l0] at h
  | k + 1 => by
    have ih0 := vivariumlaw17_LinearNames.mono_l k
    · intro y0 y1 y2
      unfold vivariumlaw17_LinearNames.l0
      repeat' first
      | (with_reducible exact ih0 _ _ _)
      | (with_reducible exact vivariumlaw17_alive.mono _)
      | (with_reducible exact LeO.refl _)
      | (with_reducible exact LeO.none _)
      | (with_reducible refine LeO.ite ?_ ?_)
      | (with_reducible refine LeO.bind ?_ (fun _ => ?_))
      | exact ih0 _ _ _
      | exact vivariumlaw17_alive.mono _
      | exact LeO.none _
      | refine LeO.ite ?_ ?_
      | refine LeO.bind ?_ (fun _ => ?_)
theorem vivariumlaw17_LinearNames.mono : ∀ k, LeO (vivariumlaw17_LinearNames.f k ) (vivariumlaw17_LinearNames.f (k + 1) ) := by
  intro  k
  have ih0 := vivariumlaw17_LinearNames.mono_l k
  unfold vivariumlaw17_LinearNames.f
  repeat' first
      | (with_reducible exact ih0 _ _ _)
      | (with_reducible exact vivariumlaw17_alive.mono _)
      | (with_reducible exact LeO.refl _)
      | (with_reducible exact LeO.none _)
      | (with_reducible refine LeO.ite ?_ ?_)
      | (with_reducible refine LeO.bind ?_ (fun _ => ?_))
      | exact ih0 _ _ _
      | exact vivariumlaw17_alive.mono _
      | exact LeO.none _
      | refine LeO.ite ?_ ?_
      | refine LeO.bind ?_ (fun _ => ?_)
set_option maxHeartbeats 8000000 in
set_option maxRecDepth 100000 in
theorem vivariumlaw17_LinearNames.calls (k : Nat)  (r : Bool) (w : World) (h : vivariumlaw17_LinearNames.f k  = some r) :
    Calls Try.prog 3 #[] w fun e w' => e = .returned (.bool r) ∧ Below w.heap.size w w' := by
  have hu25 := Try.underlying25
  have HB := Aside0.mk (Below.refl w.heap.size w)
  have H : ((vivariumlaw17_alive.f k).bind fun t205 => (vivariumlaw17_LinearNames.l0 k t205 ([] : List (S25)) 0)) = some r := h
  clear h
  replace H := Option.bind_eq_some_iff.mp H
  obtain ⟨t205, A10, H⟩ := H
  replace H : (vivariumlaw17_LinearNames.l0 k t205 ([] : List (S25)) 0) = some r := H
  have A1 := Aside0.mk A10
  clear A10
  have H' := Aside0.mk H
  clear H
  go_enter Try.func3, Try.ntmps3
  go_wp2_with (first | ((with_reducible refine gate_callee (f := 14) rfl ?_); refine goesL_ (some 4) rfl rfl Try.func14 (by kernel_rfl) rfl #[] rfl (by (try simp only [List.map_toArray, List.map_cons, List.map_nil]); first | done | rfl | (simp only [List.length_drop, List.length_take]; rfl)) ?_; (with_reducible refine (vivariumlaw17_alive.calls k  t205 _ A1.out).mono ?_); rintro e w2 ⟨rfl, hb⟩; refine ⟨_, rfl, ?_⟩; have n0_ := Aside0.mk (below_step (by repeat (first | (with_reducible first | exact HB.out | apply below_alloc | apply pw_below_drewN | apply below_drew1) | exact HB.out)) hb); clear HB; have HB := n0_; clear n0_; (try clear hb); (try clear hb2); (try clear hk); (try clear hi)))
  go_loopg [2, 3] k (fun kq v2 v3 w' => ∃ (x2_1 : List (S25)) (x3_1 : Int), v3 = .int .i64 x3_1 ∧ Aside0 (vivariumlaw17_LinearNames.l0 kq t205 x2_1 x3_1 = some r) ∧ Aside0 (kq ≤ k) ∧ Aside0 (Kd.R k25 25 w' w.heap.size (fun _ => True) v2 x2_1) ∧ Aside0 (Below w.heap.size w w'))
  case atStart => exact ⟨(([] : List (S25))), (0), (by first | rfl | (simp; done) | (simp [*]; done)), H', ⟨Nat.le_refl _⟩, ⟨by first | exact Kd.R_nil _ _ _ _ _ | exact Kd.N_nil _ _ _ _ _ | exact Kd.V_nil _ _ _ _ _ | exact Kd.Q_nil _ _ _ _ _ | exact Kd.S_nil _ _ _ _ _⟩, ⟨by repeat (first | (with_reducible first | exact HB.out | apply below_alloc | apply pw_below_drewN | apply below_drew1) | exact HB.out)⟩⟩
  case round =>
    clear H'
    try clear c1
    try clear p2
    obtain ⟨x2_1, x3_1, rfl, HA, HK1, HO_2, HB⟩ := hrel
    cases gk with
    | zero => exact absurd HA.out (by simp [vivariumlaw17_LinearNames.l0])
    | succ k1 =>
      have H := HA.out
      clear HA
      simp only [vivariumlaw17_LinearNames.l0] at H
      by_cases c3 : x3_1 < 65
      · rw [if_pos c3] at H
        have c3b0 : decide (x3_1 < 65) = true := decide_eq_true c3
        clear c3
        by_cases c4 : x2_1.length < 8796093022208
        · rw [if_pos c4] at H
          have LMc4 := Aside0.mk c4
          clear c4
          obtain ⟨y206, hy206⟩ : ∃ y_ : List (S25), y_ = (x2_1 ++ [(⟨x3_1, wrap64 (-x3_1)⟩ : S25)]) := ⟨_, rfl⟩
          replace H : (vivariumlaw17_LinearNames.l0 k1 t205 y206 (wrap64 (x3_1 + 1))) = some r := by first | (rw [hy206]; with_reducible exact H) | (have H2_ := (Option.bind_some _ _).symm.trans H; rw [hy206]; with_reducible exact H2_) | (have H2_ := (Option.bind_some _ _).symm.trans H; with_reducible exact H2_) | with_reducible exact H | (rw [hy206]; exact H) | exact H
          have Ny206 := Aside0.mk hy206
          clear hy206
          have H' := Aside0.mk H
          clear H
          go_wp2_with (first | ((with_reducible refine gate_builtin (b := .append) (xs := #[.tmp 9, .tmp 14]) rfl ?_); at_builtin; refine Kd.R_append k25 (w0 := w) w.heap.size rfl (.tmp 9) (.tmp 14) 23 25 (.agg #[(.int .i64 0), (.int .i64 0)]) 16 rfl Try.underlying23 info25 rfl (by decide) (by omega) u2 x2_1 (⟨x3_1, wrap64 (-x3_1)⟩ : S25) [.int .i64 x3_1, .int .i64 (wrap64 (-x3_1))] (fun _ => True) (fun _ => False) rfl rfl ?aP (fun _ hk => hk.elim) ?aF ?aO ?aB ?aS ?aL ?_; (case aP => exact k25_mkM _ _ _ (⟨x3_1, wrap64 (-x3_1)⟩ : S25)); (case aB => exact (by repeat (first | (with_reducible first | exact HB.out | apply below_alloc | apply pw_below_drewN | apply below_drew1) | exact HB.out))); (case aF => exact (fun _ _ => trivial)); (case aO => exact (by (with_reducible repeat (first | apply Kd.R_alloc | apply Kd.R_drewN | apply Kd.R_drew)); exact HO_2.out)); (case aS => exact (below_size (by repeat (first | (with_reducible first | exact HB.out | apply below_alloc | apply pw_below_drewN | apply below_drew1) | exact HB.out)))); (case aL => have := LMc4.out; omega); intro v207 w5 ho hb hg hat; rw [← Ny206.out] at ho; have n0_ := Aside0.mk (hb); have n1_ := Aside0.mk (ho); clear HB; clear HO_2; have HB := n0_; have HO208 := n1_; clear n0_ n1_; clear ho hb hg hat))
          go_roundg k1
          case measure => have := HK1.out; omega
          case rel => exact ⟨(y206), (wrap64 (x3_1 + 1)), (by first | rfl | (simp; done) | (simp [*]; done)), H', ⟨by have := HK1.out; omega⟩, ⟨by (with_reducible repeat (first | apply Kd.R_alloc | apply Kd.R_drewN | apply Kd.R_drew)); exact HO208.out⟩, ⟨by repeat (first | (with_reducible first | exact HB.out | apply below_alloc | apply pw_below_drewN | apply below_drew1) | exact HB.out)⟩⟩
        · rw [if_neg c4] at H
          exact absurd H (by simp)
      · rw [if_neg c3] at H
        have c3b0 : decide (x3_1 < 65) = false := decide_eq_false c3
        clear c3
        by_cases c6 : t205 = true
        · subst c6
          have H1 : (if 64 ≤ (x2_1.length : Int) then ((linear_Check.f (x2_1.take 64)).bind fun t213 => (if t213 = 0 then ((linear_Check.f x2_1).bind fun t214 => (if t214 = 6 then ((linear_Check.f ([] : List (S25))).bind fun t215 => (some (t215 == 0))) else (some false))) else (some false))) else (none)) = some r := by rw [if_pos rfl] at H; exact H
          clear H
          have H := H1
          clear H1
          by_cases c7 : 64 ≤ (x2_1.length : Int)
          · rw [if_pos c7] at H
            have c7b0 := eq_true c7
            have c7b1 : decide (64 ≤ (x2_1.length : Int)) = true := decide_eq_true c7
            clear c7
            obtain ⟨y209, hy209⟩ : ∃ y_ : List (S25), y_ = (x2_1.take 64) := ⟨_, rfl⟩
            replace H : ((linear_Check.f y209).bind fun t213 => (if t213 = 0 then ((linear_Check.f x2_1).bind fun t214 => (if t214 = 6 then ((linear_Check.f ([] : List (S25))).bind fun t215 => (some (t215 == 0))) else (some false))) else (some false))) = some r := by first | (rw [hy209]; with_reducible exact H) | (have H2_ := (Option.bind_some _ _).symm.trans H; rw [hy209]; with_reducible exact H2_) | (have H2_ := (Option.bind_some _ _).symm.trans H; with_reducible exact H2_) | with_reducible exact H | (rw [hy209]; exact H) | exact H
            have Ny209 := Aside0.mk hy209
            clear hy209
            replace H := Option.bind_eq_some_iff.mp H
            obtain ⟨t213, A80, H⟩ := H
            replace H : (if t213 = 0 then ((linear_Check.f x2_1).bind fun t214 => (if t214 = 6 then ((linear_Check.f ([] : List (S25))).bind fun t215 => (some (t215 == 0))) else (some false))) else (some false)) = some r := H
            have A8 := Aside0.mk A80
            clear A80
            by_cases c9 : t213 = 0
            · rw [if_pos c9] at H
              have c9b0 : (t213 == 0) = true := beq_iff_eq.mpr c9
              have c9b1 : (t213 != 0) = false := bne_eq_false_iff_eq.mpr c9
              clear c9
              replace H := Option.bind_eq_some_iff.mp H
              obtain ⟨t214, A100, H⟩ := H
              replace H : (if t214 = 6 then ((linear_Check.f ([] : List (S25))).bind fun t215 => (some (t215 == 0))) else (some false)) = some r := H
              have A10 := Aside0.mk A100
              clear A100
              by_cases c11 : t214 = 6
              · rw [if_pos c11] at H
                have c11b0 : (t214 == 6) = true := beq_iff_eq.mpr c11
                have c11b1 : (t214 != 6) = false := bne_eq_false_iff_eq.mpr c11
                clear c11
                replace H := Option.bind_eq_some_iff.mp H
                obtain ⟨t215, A120, H⟩ := H
                replace H : (some (t215 == 0)) = some r := H
                have A12 := Aside0.mk A120
                clear A120
                obtain rfl := Option.some.inj H
                obtain ⟨Ao14, co14, eo14⟩ := Kd.R_slice HO_2.out
                subst eo14
                have q13 : (64 : Int) ≤ ((x2_1.length : Int) : Int) := of_decide_eq_true (by first | (with_reducible assumption) | assumption)
                obtain ⟨i013, hi013, _, hsz13, _⟩ := info_parts info25
                have hroom13 : x2_1.length ≤ co14 := (Kd.R_reads' HO_2.out).2.1
                have hC13 : Kd.C k25 _ Ao14 x2_1.length x2_1 := (Kd.R_reads' HO_2.out).2.2
                have hcut13 := cut_to (P := Try.prog) 23 25 .i64 Try.underlying23 hi013 Ao14 x2_1.length co14 64 (by omega) q13 hroom13
                have hr13 := Kd.C_take (m := 64) hC13 (by omega)
                have hy13 : y209.length = (64 : Int).toNat := (by rw [Ny209.out, List.length_take]; omega)
                rw [← Ny209.out] at hr13
                rw [← hy13] at hcut13
                have HR212 := Aside0.mk hr13
                have HC212 := Aside0.mk (show y209.length ≤ co14 from by omega)
                clear hr13 hC13 hroom13 hi013 hsz13
                have KY13 := Aside0.mk hy13
                clear hy13
                have KL13 := Aside0.mk (show 64 ≤ x2_1.length from by omega)
                replace q13 := eq_true q13
                go_wp2_with (first | (go_at_call 15; (with_reducible refine (linear_Check.calls _ _ y209 t213 _ ?side1 ?side2 A8.out).mono ?_); (case side1 => repeat (first | exact (by repeat (first | (with_reducible exact HR212.out) | (with_reducible refine Kd.C_alloc ?_ _) | (with_reducible refine Kd.C_drewN ?_ _) | (with_reducible refine Kd.C_drew ?_) | exact HR212.out)) | (with_reducible refine Kd.C_alloc ?_ _) | (with_reducible refine Kd.C_drewN ?_ _) | (with_reducible refine Kd.C_drew ?_))); (case side2 => exact HC212.out); rintro e w15 ⟨rfl, hb⟩; have n0_ := Aside0.mk (Kd.R_below (by (with_reducible repeat (first | apply Kd.R_alloc | apply Kd.R_drewN | apply Kd.R_drew)); exact HO_2.out) hb); have n1_ := Aside0.mk (Kd.C_below (by repeat (first | (with_reducible exact HR212.out) | (with_reducible refine Kd.C_alloc ?_ _) | (with_reducible refine Kd.C_drewN ?_ _) | (with_reducible refine Kd.C_drew ?_) | exact HR212.out)) hb); have n2_ := Aside0.mk (below_step (by repeat (first | (with_reducible first | exact HB.out | apply below_alloc | apply pw_below_drewN | apply below_drew1) | exact HB.out)) hb); clear HO_2; clear HR212; clear HB; have HO_2 := n0_; have HR212 := n1_; have HB := n2_; clear n0_ n1_ n2_; (try clear hb); (try clear hb2); (try clear hk); (try clear hi)) | (go_at_call 15; (with_reducible refine (linear_Check.calls _ _ x2_1 t214 _ ?side1 ?side2 A10.out).mono ?_); (case side1 => repeat (first | exact (Kd.R_reads' HO_2.out).2.2 | (with_reducible refine Kd.C_alloc ?_ _) | (with_reducible refine Kd.C_drewN ?_ _) | (with_reducible refine Kd.C_drew ?_))); (case side2 => exact (Kd.R_reads' HO_2.out).2.1); rintro e w16 ⟨rfl, hb⟩; have n0_ := Aside0.mk (Kd.R_below (by (with_reducible repeat (first | apply Kd.R_alloc | apply Kd.R_drewN | apply Kd.R_drew)); exact HO_2.out) hb); have n1_ := Aside0.mk (Kd.C_below (by repeat (first | (with_reducible exact HR212.out) | (with_reducible refine Kd.C_alloc ?_ _) | (with_reducible refine Kd.C_drewN ?_ _) | (with_reducible refine Kd.C_drew ?_) | exact HR212.out)) hb); have n2_ := Aside0.mk (below_step (by repeat (first | (with_reducible first | exact HB.out | apply below_alloc | apply pw_below_drewN | apply below_drew1) | exact HB.out)) hb); clear HO_2; clear HR212; clear HB; have HO_2 := n0_; have HR212 := n1_; have HB := n2_; clear n0_ n1_ n2_; (try clear hb); (try clear hb2); (try clear hk); (try clear hi)) | (go_at_call 15; (refine (linear_Check.calls _ _ ([] : List (S25)) t215 _ ?side1 ?side2 A12.out).mono ?_); (case side1 => exact Kd.C_nil _ _); (case side2 => exact Nat.le_refl _); rintro e w17 ⟨rfl, hb⟩; have n0_ := Aside0.mk (Kd.R_below (by (with_reducible repeat (first | apply Kd.R_alloc | apply Kd.R_drewN | apply Kd.R_drew)); exact HO_2.out) hb); have n1_ := Aside0.mk (Kd.C_below (by repeat (first | (with_reducible exact HR212.out) | (with_reducible refine Kd.C_alloc ?_ _) | (with_reducible refine Kd.C_drewN ?_ _) | (with_reducible refine Kd.C_drew ?_) | exact HR212.out)) hb); have n2_ := Aside0.mk (below_step (by repeat (first | (with_reducible first | exact HB.out | apply below_alloc | apply pw_below_drewN | apply below_drew1) | exact HB.out)) hb); clear HO_2; clear HR212; clear HB; have HO_2 := n0_; have HR212 := n1_; have HB := n2_; clear n0_ n1_ n2_; (try clear hb); (try clear hb2); (try clear hk); (try clear hi)))
                go_ret
                exact ⟨by first | rfl | (simp [errW_none, errW_some] <;> rfl) | (simp [*, errW_none, errW_some] <;> rfl), by repeat (first | (with_reducible first | exact HB.out | apply below_alloc | apply pw_below_drewN | apply below_drew1) | exact HB.out)⟩
              · rw [if_neg c11] at H
                have c11b0 : (t214 == 6) = false := beq_eq_false_iff_ne.mpr c11
                have c11b1 : (t214 != 6) = true := bne_iff_ne.mpr c11
                obtain rfl := Option.some.inj H
                obtain ⟨Ao19, co19, eo19⟩ := Kd.R_slice HO_2.out
                subst eo19
                have q18 : (64 : Int) ≤ ((x2_1.length : Int) : Int) := of_decide_eq_true (by first | (with_reducible assumption) | assumption)
                obtain ⟨i018, hi018, _, hsz18, _⟩ := info_parts info25
                have hroom18 : x2_1.length ≤ co19 := (Kd.R_reads' HO_2.out).2.1
                have hC18 : Kd.C k25 _ Ao19 x2_1.length x2_1 := (Kd.R_reads' HO_2.out).2.2
                have hcut18 := cut_to (P := Try.prog) 23 25 .i64 Try.underlying23 hi018 Ao19 x2_1.length co19 64 (by omega) q18 hroom18
                have hr18 := Kd.C_take (m := 64) hC18 (by omega)
                have hy18 : y209.length = (64 : Int).toNat := (by rw [Ny209.out, List.length_take]; omega)
                rw [← Ny209.out] at hr18
                rw [← hy18] at hcut18
                have HR212 := Aside0.mk hr18
                have HC212 := Aside0.mk (show y209.length ≤ co19 from by omega)
                clear hr18 hC18 hroom18 hi018 hsz18
                have KY18 := Aside0.mk hy18
                clear hy18
                have KL18 := Aside0.mk (show 64 ≤ x2_1.length from by omega)
                replace q18 := eq_true q18
                go_wp2_with (first | (go_at_call 15; (with_reducible refine (linear_Check.calls _ _ y209 t213 _ ?side1 ?side2 A8.out).mono ?_); (case side1 => repeat (first | exact (by repeat (first | (with_reducible exact HR212.out) | (with_reducible refine Kd.C_alloc ?_ _) | (with_reducible refine Kd.C_drewN ?_ _) | (with_reducible refine Kd.C_drew ?_) | exact HR212.out)) | (with_reducible refine Kd.C_alloc ?_ _) | (with_reducible refine Kd.C_drewN ?_ _) | (with_reducible refine Kd.C_drew ?_))); (case side2 => exact HC212.out); rintro e w20 ⟨rfl, hb⟩; have n0_ := Aside0.mk (Kd.R_below (by (with_reducible repeat (first | apply Kd.R_alloc | apply Kd.R_drewN | apply Kd.R_drew)); exact HO_2.out) hb); have n1_ := Aside0.mk (Kd.C_below (by repeat (first | (with_reducible exact HR212.out) | (with_reducible refine Kd.C_alloc ?_ _) | (with_reducible refine Kd.C_drewN ?_ _) | (with_reducible refine Kd.C_drew ?_) | exact HR212.out)) hb); have n2_ := Aside0.mk (below_step (by repeat (first | (with_reducible first | exact HB.out | apply below_alloc | apply pw_below_drewN | apply below_drew1) | exact HB.out)) hb); clear HO_2; clear HR212; clear HB; have HO_2 := n0_; have HR212 := n1_; have HB := n2_; clear n0_ n1_ n2_; (try clear hb); (try clear hb2); (try clear hk); (try clear hi)) | (go_at_call 15; (with_reducible refine (linear_Check.calls _ _ x2_1 t214 _ ?side1 ?side2 A10.out).mono ?_); (case side1 => repeat (first | exact (Kd.R_reads' HO_2.out).2.2 | (with_reducible refine Kd.C_alloc ?_ _) | (with_reducible refine Kd.C_drewN ?_ _) | (with_reducible refine Kd.C_drew ?_))); (case side2 => exact (Kd.R_reads' HO_2.out).2.1); rintro e w21 ⟨rfl, hb⟩; have n0_ := Aside0.mk (Kd.R_below (by (with_reducible repeat (first | apply Kd.R_alloc | apply Kd.R_drewN | apply Kd.R_drew)); exact HO_2.out) hb); have n1_ := Aside0.mk (Kd.C_below (by repeat (first | (with_reducible exact HR212.out) | (with_reducible refine Kd.C_alloc ?_ _) | (with_reducible refine Kd.C_drewN ?_ _) | (with_reducible refine Kd.C_drew ?_) | exact HR212.out)) hb); have n2_ := Aside0.mk (below_step (by repeat (first | (with_reducible first | exact HB.out | apply below_alloc | apply pw_below_drewN | apply below_drew1) | exact HB.out)) hb); clear HO_2; clear HR212; clear HB; have HO_2 := n0_; have HR212 := n1_; have HB := n2_; clear n0_ n1_ n2_; (try clear hb); (try clear hb2); (try clear hk); (try clear hi)))
                go_ret
                exact ⟨by first | rfl | (simp [errW_none, errW_some] <;> rfl) | (simp [*, errW_none, errW_some] <;> rfl), by repeat (first | (with_reducible first | exact HB.out | apply below_alloc | apply pw_below_drewN | apply below_drew1) | exact HB.out)⟩
            · rw [if_neg c9] at H
              have c9b0 : (t213 == 0) = false := beq_eq_false_iff_ne.mpr c9
              have c9b1 : (t213 != 0) = true := bne_iff_ne.mpr c9
              obtain rfl := Option.some.inj H
              obtain ⟨Ao23, co23, eo23⟩ := Kd.R_slice HO_2.out
              subst eo23
              have q22 : (64 : Int) ≤ ((x2_1.length : Int) : Int) := of_decide_eq_true (by first | (with_reducible assumption) | assumption)
              obtain ⟨i022, hi022, _, hsz22, _⟩ := info_parts info25
              have hroom22 : x2_1.length ≤ co23 := (Kd.R_reads' HO_2.out).2.1
              have hC22 : Kd.C k25 _ Ao23 x2_1.length x2_1 := (Kd.R_reads' HO_2.out).2.2
              have hcut22 := cut_to (P := Try.prog) 23 25 .i64 Try.underlying23 hi022 Ao23 x2_1.length co23 64 (by omega) q22 hroom22
              have hr22 := Kd.C_take (m := 64) hC22 (by omega)
              have hy22 : y209.length = (64 : Int).toNat := (by rw [Ny209.out, List.length_take]; omega)
              rw [← Ny209.out] at hr22
              rw [← hy22] at hcut22
              have HR212 := Aside0.mk hr22
              have HC212 := Aside0.mk (show y209.length ≤ co23 from by omega)
              clear hr22 hC22 hroom22 hi022 hsz22
              have KY22 := Aside0.mk hy22
              clear hy22
              have KL22 := Aside0.mk (show 64 ≤ x2_1.length from by omega)
              replace q22 := eq_true q22
              go_wp2_with (first | (go_at_call 15; (with_reducible refine (linear_Check.calls _ _ y209 t213 _ ?side1 ?side2 A8.out).mono ?_); (case side1 => repeat (first | exact (by repeat (first | (with_reducible exact HR212.out) | (with_reducible refine Kd.C_alloc ?_ _) | (with_reducible refine Kd.C_drewN ?_ _) | (with_reducible refine Kd.C_drew ?_) | exact HR212.out)) | (with_reducible refine Kd.C_alloc ?_ _) | (with_reducible refine Kd.C_drewN ?_ _) | (with_reducible refine Kd.C_drew ?_))); (case side2 => exact HC212.out); rintro e w24 ⟨rfl, hb⟩; have n0_ := Aside0.mk (Kd.R_below (by (with_reducible repeat (first | apply Kd.R_alloc | apply Kd.R_drewN | apply Kd.R_drew)); exact HO_2.out) hb); have n1_ := Aside0.mk (Kd.C_below (by repeat (first | (with_reducible exact HR212.out) | (with_reducible refine Kd.C_alloc ?_ _) | (with_reducible refine Kd.C_drewN ?_ _) | (with_reducible refine Kd.C_drew ?_) | exact HR212.out)) hb); have n2_ := Aside0.mk (below_step (by repeat (first | (with_reducible first | exact HB.out | apply below_alloc | apply pw_below_drewN | apply below_drew1) | exact HB.out)) hb); clear HO_2; clear HR212; clear HB; have HO_2 := n0_; have HR212 := n1_; have HB := n2_; clear n0_ n1_ n2_; (try clear hb); (try clear hb2); (try clear hk); (try clear hi)))
              go_ret
              exact ⟨by first | rfl | (simp [errW_none, errW_some] <;> rfl) | (simp [*, errW_none, errW_some] <;> rfl), by repeat (first | (with_reducible first | exact HB.out | apply below_alloc | apply pw_below_drewN | apply below_drew1) | exact HB.out)⟩
          · rw [if_neg c7] at H
            exact absurd H (by simp)
        · replace c6 := Bool.eq_false_iff.mpr c6
          subst c6
          have H1 : (some false) = some r := by rw [if_neg (show ¬ (false = true) by decide)] at H; exact H
          clear H
          have H := H1
          clear H1
          obtain rfl := Option.some.inj H
          go_wp2
          go_ret
          exact ⟨by first | rfl | (simp [errW_none, errW_some] <;> rfl) | (simp [*, errW_none, errW_some] <;> rfl), by repeat (first | (with_reducible first | exact HB.out | apply below_alloc | apply pw_below_drewN | apply below_drew1) | exact HB.out)⟩

/-- THE ONE PURE STATEMENT of vivariumlaw17_LinearNames: yours. -/
def vivariumlaw17_LinearNames.Pure : Prop := ∃ k, vivariumlaw17_LinearNames.f k  = some true
theorem vivariumlaw17_LinearNames.walk (P : vivariumlaw17_LinearNames.Pure)  (w : World)  :
    Calls Try.prog 3 #[] w fun e w' => e = .returned (.bool true) ∧ Below w.heap.size w w' := by
  obtain ⟨k, h⟩ := P  
  refine (vivariumlaw17_LinearNames.calls k  true w h).mono ?_
  rintro e w' ⟨rfl, hd⟩
  exact ⟨rfl, hd⟩

end Go.Proofs.Ytomogkhdfaiekaa.PLin
