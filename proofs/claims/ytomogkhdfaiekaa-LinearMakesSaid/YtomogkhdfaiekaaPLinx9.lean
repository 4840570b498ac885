-- MADE by a program of this session (the kit's printer, taught externals): not typed by hand.
import Derived.Test.YtomogkhdfaiekaaPLinx0
import Derived.Test.YtomogkhdfaiekaaPLinx14
import Derived.Test.YtomogkhdfaiekaaPLinx33
import Derived.Test.YtomogkhdfaiekaaHLine
namespace Go.Proofs.Ytomogkhdfaiekaa.PLin
open Go.RowKit Go.Proofs.YtomogkhdfaiekaaW.PrintWords Go.Proofs.YtomogkhdfaiekaaW.PrintLast Go.Proofs.YtomogkhdfaiekaaW.PrintMore
attribute [local go_sem] max2_int min2_int max_two min_two max_three min_three max_four min_four   -- for this text's walks alone
set_option linter.unusedVariables false
set_option linter.unusedSimpArgs false

/-! ### vivariumlaw17_LinearMakes: function 9 -/
mutual
def vivariumlaw17_LinearMakes.l0 : Nat → List Int → Int → Int → Bool → List Int → Int → Option (Bool)
  | 0, _, _, _, _, _, _ => none
  | k + 1, x0, x1, x2, x7, x8, x9 => if x9 < (x0.length : Int) then (vivariumlaw17_LinearMakes.j1 k x0 x1 x2 x7 x8 x9 (decide ((x8.length : Int) < 8))) else (vivariumlaw17_LinearMakes.j1 k x0 x1 x2 x7 x8 x9 false)
def vivariumlaw17_LinearMakes.j1 : Nat → List Int → Int → Int → Bool → List Int → Int → Bool → Option (Bool)
  | 0, _, _, _, _, _, _, _ => none
  | k + 1, x0, x1, x2, x7, x8, x9, x31 => if x31 = true then (if 0 ≤ x9 then (if x9 < (x0.length : Int) then (vivariumlaw17_LinearMakes.l1 k x0 x1 x2 x7 x8 x9 (Int.tmod (rd x0 x9) 9) true 0) else (none)) else (none)) else ((vivariumlaw17_up.f x1 13).bind fun t530 => (if 601 ≤ 281474976710656 then ((some (List.replicate 601 false : List Bool)).bind fun y531 => (if 300 < (y531.length : Int) then (vivariumlaw17_LinearMakes.l2 k x7 x8 t530 (Int.tmod x2 130) (y531.set (300 : Int).toNat true) 0) else (none))) else (none)))
def vivariumlaw17_LinearMakes.l1 : Nat → List Int → Int → Int → Bool → List Int → Int → Int → Bool → Int → Option (Bool)
  | 0, _, _, _, _, _, _, _, _, _ => none
  | k + 1, x0, x1, x2, x7, x8, x9, x10, x11, x12 => if x12 < (x8.length : Int) then (if 0 ≤ x12 then (if (rd x8 x12) = x10 then (vivariumlaw17_LinearMakes.l1 k x0 x1 x2 x7 x8 x9 x10 false (wrap64 (x12 + 1))) else (vivariumlaw17_LinearMakes.l1 k x0 x1 x2 x7 x8 x9 x10 x11 (wrap64 (x12 + 1)))) else (none)) else (if x11 = true then (if x8.length < 17592186044416 then (vivariumlaw17_LinearMakes.l0 k x0 x1 x2 x7 (x8 ++ [x10]) (wrap64 (x9 + 1))) else (none)) else (vivariumlaw17_LinearMakes.l0 k x0 x1 x2 x7 x8 (wrap64 (x9 + 1))))
def vivariumlaw17_LinearMakes.l2 : Nat → Bool → List Int → Int → Int → List Bool → Int → Option (Bool)
  | 0, _, _, _, _, _, _ => none
  | k + 1, x7, x8, x13, x14, x15, x16 => if x16 < x13 then (if 601 ≤ 281474976710656 then (vivariumlaw17_LinearMakes.l3 k x7 x8 x13 x14 x15 x16 (List.replicate 601 false) 100) else (none)) else ((linear_Line.f x8 x13 x14).bind fun bt535 => (if x7 = true then (if bt535.2 = 0 then (if 0 ≤ (wrap64 (300 + x14)) then (if (wrap64 (300 + x14)) < (x15.length : Int) then (some (bt535.1 == (rdOf false x15 (wrap64 (300 + x14))))) else (none)) else (none)) else (some false)) else (some false)))
def vivariumlaw17_LinearMakes.l3 : Nat → Bool → List Int → Int → Int → List Bool → Int → List Bool → Int → Option (Bool)
  | 0, _, _, _, _, _, _, _, _ => none
  | k + 1, x7, x8, x13, x14, x15, x16, x17, x18 => if x18 ≤ 500 then (vivariumlaw17_LinearMakes.l4 k x7 x8 x13 x14 x15 x16 x17 x18 0) else (vivariumlaw17_LinearMakes.l2 k x7 x8 x13 x14 x17 (wrap64 (x16 + 1)))
def vivariumlaw17_LinearMakes.l4 : Nat → Bool → List Int → Int → Int → List Bool → Int → List Bool → Int → Int → Option (Bool)
  | 0, _, _, _, _, _, _, _, _, _ => none
  | k + 1, x7, x8, x13, x14, x15, x16, x17, x18, x19 => if x19 < (x8.length : Int) then (if 0 ≤ x19 then (if 0 ≤ (wrap64 (x18 + (rd x8 x19))) then (if (wrap64 (x18 + (rd x8 x19))) < (x15.length : Int) then (if rdOf false x15 (wrap64 (x18 + (rd x8 x19))) = true then (if 0 ≤ x18 then (if x18 < (x17.length : Int) then (vivariumlaw17_LinearMakes.l4 k x7 x8 x13 x14 x15 x16 (x17.set (x18 : Int).toNat (!(rdOf false x17 x18))) x18 (wrap64 (x19 + 1))) else (none)) else (none)) else (vivariumlaw17_LinearMakes.l4 k x7 x8 x13 x14 x15 x16 x17 x18 (wrap64 (x19 + 1)))) else (none)) else (none)) else (none)) else (vivariumlaw17_LinearMakes.l3 k x7 x8 x13 x14 x15 x16 x17 (wrap64 (x18 + 1)))
end
def vivariumlaw17_LinearMakes.f (k : Nat) (l0 : List Int) (a1 : Int) (a2 : Int) : Option (Bool) := (vivariumlaw17_alive.f k).bind fun t524 => (vivariumlaw17_LinearMakes.l0 k l0 a1 a2 t524 ([] : List Int) 0)
theorem vivariumlaw17_LinearMakes.mono_l : ∀ k, (∀ y0 y1 y2 y3 y4 y5, LeO (vivariumlaw17_LinearMakes.l0 k y0 y1 y2 y3 y4 y5) (vivariumlaw17_LinearMakes.l0 (k + 1) y0 y1 y2 y3 y4 y5)) ∧ (∀ y0 y1 y2 y3 y4 y5 y6, LeO (vivariumlaw17_LinearMakes.j1 k y0 y1 y2 y3 y4 y5 y6) (vivariumlaw17_LinearMakes.j1 (k + 1) y0 y1 y2 y3 y4 y5 y6)) ∧ (∀ y0 y1 y2 y3 y4 y5 y6 y7 y8, LeO (vivariumlaw17_LinearMakes.l1 k y0 y1 y2 y3 y4 y5 y6 y7 y8) (vivariumlaw17_LinearMakes.l1 (k + 1) y0 y1 y2 y3 y4 y5 y6 y7 y8)) ∧ (∀ y0 y1 y2 y3 y4 y5, LeO (vivariumlaw17_LinearMakes.l2 k y0 y1 y2 y3 y4 y5) (vivariumlaw17_LinearMakes.l2 (k + 1) y0 y1 y2 y3 y4 y5)) ∧ (∀ y0 y1 y2 y3 y4 y5 y6 y7, LeO (vivariumlaw17_LinearMakes.l3 k y0 y1 y2 y3 y4 y5 y6 y7) (vivariumlaw17_LinearMakes.l3 (k + 1) y0 y1 y2 y3 y4 y5 y6 y7)) ∧ (∀ y0 y1 y2 y3 y4 y5 y6 y7 y8, LeO (vivariumlaw17_LinearMakes.l4 k y0 y1 y2 y3 y4 y5 y6 y7 y8) (vivariumlaw17_LinearMakes.l4 (k + 1) y0 y1 y2 y3 y4 y5 y6 y7 y8))
  | 0 => ⟨fun _ _ _ _ _ _ r h => by simp [vivariumlaw17_LinearMakes.l0] at h, fun _ _ _ _ _ _ _ r h => by simp [vivariumlaw17_LinearMakes.j1] at h, fun _ _ _ _ _ _ _ _ _ r h => by simp [vivariumlaw17_LinearMakes.l1] at h, fun _ _ _ _ _ _ r h => by simp [vivariumlaw17_LinearMakes.l2] at h, fun _ _ _ _ _ _ _ _ r h => by simp [vivariumlaw17_LinearMakes.l3] at h, fun _ _ _ _ _ _ _ _ _ r h => by simp [vivariumlaw17_LinearMakes.l4] at h⟩
  | k + 1 => by
    obtain ⟨ih0, ih1, ih2, ih3, ih4, ih5⟩ := vivariumlaw17_LinearMakes.mono_l k
    refine ⟨?_, ?_, ?_, ?_, ?_, ?_⟩
    · intro y0 y1 y2 y3 y4 y5
      unfold vivariumlaw17_LinearMakes.l0
      repeat' first
      | (with_reducible exact ih0 _ _ _ _ _ _)
      | (with_reducible exact ih1 _ _ _ _ _ _ _)
      | (with_reducible exact ih2 _ _ _ _ _ _ _ _ _)
      | (with_reducible exact ih3 _ _ _ _ _ _)
      | (with_reducible exact ih4 _ _ _ _ _ _ _ _)
      | (with_reducible exact ih5 _ _ _ _ _ _ _ _ _)
      | (with_reducible exact vivariumlaw17_alive.mono _)
      | (with_reducible exact LeO.refl _)
      | (with_reducible exact LeO.none _)
      | (with_reducible refine LeO.ite ?_ ?_)
      | (with_reducible refine LeO.bind ?_ (fun _ => ?_))
      | exact ih0 _ _ _ _ _ _
      | exact ih1 _ _ _ _ _ _ _
      | exact ih2 _ _ _ _ _ _ _ _ _
      | exact ih3 _ _ _ _ _ _
      | exact ih4 _ _ _ _ _ _ _ _
      | exact ih5 _ _ _ _ _ _ _ _ _
      | exact vivariumlaw17_alive.mono _
      | exact LeO.none _
      | refine LeO.ite ?_ ?_
      | refine LeO.bind ?_ (fun _ => ?_)
    · intro y0 y1 y2 y3 y4 y5 y6
      unfold vivariumlaw17_LinearMakes.j1
      repeat' first
      | (with_reducible exact ih0 _ _ _ _ _ _)
      | (with_reducible exact ih1 _ _ _ _ _ _ _)
      | (with_reducible exact ih2 _ _ _ _ _ _ _ _ _)
      | (with_reducible exact ih3 _ _ _ _ _ _)
      | (with_reducible exact ih4 _ _ _ _ _ _ _ _)
      | (with_reducible exact ih5 _ _ _ _ _ _ _ _ _)
      | (with_reducible exact vivariumlaw17_alive.mono _)
      | (with_reducible exact LeO.refl _)
      | (with_reducible exact LeO.none _)
      | (with_reducible refine LeO.ite ?_ ?_)
      | (with_reducible refine LeO.bind ?_ (fun _ => ?_))
      | exact ih0 _ _ _ _ _ _
      | exact ih1 _ _ _ _ _ _ _
      | exact ih2 _ _ _ _ _ _ _ _ _
      | exact ih3 _ _ _ _ _ _
      | exact ih4 _ _ _ _ _ _ _ _
      | exact ih5 _ _ _ _ _ _ _ _ _
      | exact vivariumlaw17_alive.mono _
      | exact LeO.none _
      | refine LeO.ite ?_ ?_
      | refine LeO.bind ?_ (fun _ => ?_)
    · intro y0 y1 y2 y3 y4 y5 y6 y7 y8
      unfold vivariumlaw17_LinearMakes.l1
      repeat' first
      | (with_reducible exact ih0 _ _ _ _ _ _)
      | (with_reducible exact ih1 _ _ _ _ _ _ _)
      | (with_reducible exact ih2 _ _ _ _ _ _ _ _ _)
      | (with_reducible exact ih3 _ _ _ _ _ _)
      | (with_reducible exact ih4 _ _ _ _ _ _ _ _)
      | (with_reducible exact ih5 _ _ _ _ _ _ _ _ _)
      | (with_reducible exact vivariumlaw17_alive.mono _)
      | (with_reducible exact LeO.refl _)
      | (with_reducible exact LeO.none _)
      | (with_reducible refine LeO.ite ?_ ?_)
      | (with_reducible refine LeO.bind ?_ (fun _ => ?_))
      | exact ih0 _ _ _ _ _ _
      | exact ih1 _ _ _ _ _ _ _
      | exact ih2 _ _ _ _ _ _ _ _ _
      | exact ih3 _ _ _ _ _ _
      | exact ih4 _ _ _ _ _ _ _ _
      | exact ih5 _ _ _ _ _ _ _ _ _
      | exact vivariumlaw17_alive.mono _
      | exact LeO.none _
      | refine LeO.ite ?_ ?_
      | refine LeO.bind ?_ (fun _ => ?_)
    · intro y0 y1 y2 y3 y4 y5
      unfold vivariumlaw17_LinearMakes.l2
      repeat' first
      | (with_reducible exact ih0 _ _ _ _ _ _)
      | (with_reducible exact ih1 _ _ _ _ _ _ _)
      | (with_reducible exact ih2 _ _ _ _ _ _ _ _ _)
      | (with_reducible exact ih3 _ _ _ _ _ _)
      | (with_reducible exact ih4 _ _ _ _ _ _ _ _)
      | (with_reducible exact ih5 _ _ _ _ _ _ _ _ _)
      | (with_reducible exact vivariumlaw17_alive.mono _)
      | (with_reducible exact LeO.refl _)
      | (with_reducible exact LeO.none _)
      | (with_reducible refine LeO.ite ?_ ?_)
      | (with_reducible refine LeO.bind ?_ (fun _ => ?_))
      | exact ih0 _ _ _ _ _ _
      | exact ih1 _ _ _ _ _ _ _
      | exact ih2 _ _ _ _ _ _ _ _ _
      | exact ih3 _ _ _ _ _ _
      | exact ih4 _ _ _ _ _ _ _ _
      | exact ih5 _ _ _ _ _ _ _ _ _
      | exact vivariumlaw17_alive.mono _
      | exact LeO.none _
      | refine LeO.ite ?_ ?_
      | refine LeO.bind ?_ (fun _ => ?_)
    · intro y0 y1 y2 y3 y4 y5 y6 y7
      unfold vivariumlaw17_LinearMakes.l3
      repeat' first
      | (with_reducible exact ih0 _ _ _ _ _ _)
      | (with_reducible exact ih1 _ _ _ _ _ _ _)
      | (with_reducible exact ih2 _ _ _ _ _ _ _ _ _)
      | (with_reducible exact ih3 _ _ _ _ _ _)
      | (with_reducible exact ih4 _ _ _ _ _ _ _ _)
      | (with_reducible exact ih5 _ _ _ _ _ _ _ _ _)
      | (with_reducible exact vivariumlaw17_alive.mono _)
      | (with_reducible exact LeO.refl _)
      | (with_reducible exact LeO.none _)
      | (with_reducible refine LeO.ite ?_ ?_)
      | (with_reducible refine LeO.bind ?_ (fun _ => ?_))
      | exact ih0 _ _ _ _ _ _
      | exact ih1 _ _ _ _ _ _ _
      | exact ih2 _ _ _ _ _ _ _ _ _
      | exact ih3 _ _ _ _ _ _
      | exact ih4 _ _ _ _ _ _ _ _
      | exact ih5 _ _ _ _ _ _ _ _ _
      | exact vivariumlaw17_alive.mono _
      | exact LeO.none _
      | refine LeO.ite ?_ ?_
      | refine LeO.bind ?_ (fun _ => ?_)
    · intro y0 y1 y2 y3 y4 y5 y6 y7 y8
      unfold vivariumlaw17_LinearMakes.l4
      repeat' first
      | (with_reducible exact ih0 _ _ _ _ _ _)
      | (with_reducible exact ih1 _ _ _ _ _ _ _)
      | (with_reducible exact ih2 _ _ _ _ _ _ _ _ _)
      | (with_reducible exact ih3 _ _ _ _ _ _)
      | (with_reducible exact ih4 _ _ _ _ _ _ _ _)
      | (with_reducible exact ih5 _ _ _ _ _ _ _ _ _)
      | (with_reducible exact vivariumlaw17_alive.mono _)
      | (with_reducible exact LeO.refl _)
      | (with_reducible exact LeO.none _)
      | (with_reducible refine LeO.ite ?_ ?_)
      | (with_reducible refine LeO.bind ?_ (fun _ => ?_))
      | exact ih0 _ _ _ _ _ _
      | exact ih1 _ _ _ _ _ _ _
      | exact ih2 _ _ _ _ _ _ _ _ _
      | exact ih3 _ _ _ _ _ _
      | exact ih4 _ _ _ _ _ _ _ _
      | exact ih5 _ _ _ _ _ _ _ _ _
      | exact vivariumlaw17_alive.mono _
      | exact LeO.none _
      | refine LeO.ite ?_ ?_
      | refine LeO.bind ?_ (fun _ => ?_)
theorem vivariumlaw17_LinearMakes.mono : ∀ a0 a1 a2 k, LeO (vivariumlaw17_LinearMakes.f k a0 a1 a2) (vivariumlaw17_LinearMakes.f (k + 1) a0 a1 a2) := by
  intro a0 a1 a2 k
  obtain ⟨ih0, ih1, ih2, ih3, ih4, ih5⟩ := vivariumlaw17_LinearMakes.mono_l k
  unfold vivariumlaw17_LinearMakes.f
  repeat' first
      | (with_reducible exact ih0 _ _ _ _ _ _)
      | (with_reducible exact ih1 _ _ _ _ _ _ _)
      | (with_reducible exact ih2 _ _ _ _ _ _ _ _ _)
      | (with_reducible exact ih3 _ _ _ _ _ _)
      | (with_reducible exact ih4 _ _ _ _ _ _ _ _)
      | (with_reducible exact ih5 _ _ _ _ _ _ _ _ _)
      | (with_reducible exact vivariumlaw17_alive.mono _)
      | (with_reducible exact LeO.refl _)
      | (with_reducible exact LeO.none _)
      | (with_reducible refine LeO.ite ?_ ?_)
      | (with_reducible refine LeO.bind ?_ (fun _ => ?_))
      | exact ih0 _ _ _ _ _ _
      | exact ih1 _ _ _ _ _ _ _
      | exact ih2 _ _ _ _ _ _ _ _ _
      | exact ih3 _ _ _ _ _ _
      | exact ih4 _ _ _ _ _ _ _ _
      | exact ih5 _ _ _ _ _ _ _ _ _
      | exact vivariumlaw17_alive.mono _
      | exact LeO.none _
      | refine LeO.ite ?_ ?_
      | refine LeO.bind ?_ (fun _ => ?_)
set_option maxHeartbeats 8000000 in
set_option maxRecDepth 100000 in
theorem vivariumlaw17_LinearMakes.calls (k : Nat) (A0 : Option Addr) (c0 : Nat) (l0 : List Int) (a1 : Int) (a2 : Int) (r : Bool) (w : World) (hr0 : Kd.C (Kd.int .i64) w A0 l0.length l0) (hc0 : l0.length ≤ c0) (h : vivariumlaw17_LinearMakes.f k l0 a1 a2 = some r) :
    Calls Try.prog 9 #[.slice A0 l0.length c0, .int .i64 a1, .int .i64 a2] w fun e w' => e = .returned (.bool r) ∧ Below w.heap.size w w' := by
  have HR0 := Aside0.mk hr0
  have HC0 := Aside0.mk hc0
  clear hr0 hc0
  have HB := Aside0.mk (Below.refl w.heap.size w)
  have H : ((vivariumlaw17_alive.f k).bind fun t524 => (vivariumlaw17_LinearMakes.l0 k l0 a1 a2 t524 ([] : List Int) 0)) = some r := h
  clear h
  replace H := Option.bind_eq_some_iff.mp H
  obtain ⟨t524, A40, H⟩ := H
  replace H : (vivariumlaw17_LinearMakes.l0 k l0 a1 a2 t524 ([] : List Int) 0) = some r := H
  have A4 := Aside0.mk A40
  clear A40
  have H' := Aside0.mk H
  clear H
  go_enter Try.func9, Try.ntmps9
  go_wp2_with (first | ((with_reducible refine gate_callee (f := 14) rfl ?_); refine goesL_ (some 22) rfl rfl Try.func14 (by kernel_rfl) rfl #[] rfl (by (try simp only [List.map_toArray, List.map_cons, List.map_nil]); first | done | rfl | (simp only [List.length_drop, List.length_take]; rfl)) ?_; (with_reducible refine (vivariumlaw17_alive.calls k  t524 _ A4.out).mono ?_); rintro e w5 ⟨rfl, hb⟩; refine ⟨_, rfl, ?_⟩; have n0_ := Aside0.mk (below_step (by repeat (first | (with_reducible first | exact HB.out | apply below_alloc | apply pw_below_drewN | apply below_drew1) | exact HB.out)) hb); clear HB; have HB := n0_; clear n0_; (try clear hb); (try clear hb2); (try clear hk); (try clear hi)))
  go_loopg [8, 9] k (fun kq v8 v9 w' => ∃ (x8_1 : List Int) (x9_1 : Int), v9 = .int .i64 x9_1 ∧ Aside0 (vivariumlaw17_LinearMakes.l0 kq l0 a1 a2 t524 x8_1 x9_1 = some r) ∧ Aside0 (kq ≤ k) ∧ Aside0 (Kd.R (Kd.int .i64) 3 w' w.heap.size (fun _ => True) v8 x8_1) ∧ Aside0 (Below w.heap.size w w'))
  case atStart => exact ⟨(([] : List Int)), (0), (by first | rfl | (simp; done) | (simp [*]; done)), H', ⟨Nat.le_refl _⟩, ⟨by first | exact Kd.R_nil _ _ _ _ _ | exact Kd.N_nil _ _ _ _ _ | exact Kd.V_nil _ _ _ _ _ | exact Kd.Q_nil _ _ _ _ _ | exact Kd.S_nil _ _ _ _ _⟩, ⟨by repeat (first | (with_reducible first | exact HB.out | apply below_alloc | apply pw_below_drewN | apply below_drew1) | exact HB.out)⟩⟩
  case round =>
    clear H'
    try clear c1
    try clear p2
    obtain ⟨x8_1, x9_1, rfl, HA, HK1, HO_8, HB⟩ := hrel
    cases gk with
    | zero => exact absurd HA.out (by simp [vivariumlaw17_LinearMakes.l0])
    | succ k1 =>
      have H := HA.out
      clear HA
      simp only [vivariumlaw17_LinearMakes.l0] at H
      have HC6 := Aside0.mk H
      clear H
      go_upto_region 4 with (fail)
      go_cut [31] (fun v31 wc => ∃ (kq : Nat) (x31_5 : Bool), v31 = .bool x31_5 ∧ Aside0 (vivariumlaw17_LinearMakes.j1 kq l0 a1 a2 t524 x8_1 x9_1 x31_5 = some r) ∧ Aside0 (kq ≤ k1) ∧ Aside0 (Kd.R (Kd.int .i64) 3 wc w.heap.size (fun _ => True) u8 x8_1) ∧ Aside0 (Below w.heap.size w wc))
      case first =>
        have H := HC6.out
        clear HC6
        by_cases c7 : x9_1 < (l0.length : Int)
        · rw [if_pos c7] at H
          have c7b0 : decide (x9_1 < (l0.length : Int)) = true := decide_eq_true c7
          clear c7
          (first | rw [c7b0] | (simp only [i64_w, i32_w]; rw [c7b0]) | skip)
          have H' := Aside0.mk H
          clear H
          obtain ⟨Ao8, co8, eo8⟩ := Kd.R_slice HO_8.out
          subst eo8
          go_wp2
          go_meet
          case rel => exact ⟨_, (decide ((x8_1.length : Int) < 8)), (by first | rfl | (simp; done) | (simp [*]; done)), H', ⟨by have := HK1.out; first | omega | exact Nat.le_refl _⟩, ⟨by (with_reducible repeat (first | apply Kd.R_alloc | apply Kd.R_drewN | apply Kd.R_drew)); exact HO_8.out⟩, ⟨by repeat (first | (with_reducible first | exact HB.out | apply below_alloc | apply pw_below_drewN | apply below_drew1) | exact HB.out)⟩⟩
        · rw [if_neg c7] at H
          have c7b0 : decide (x9_1 < (l0.length : Int)) = false := decide_eq_false c7
          clear c7
          (first | rw [c7b0] | (simp only [i64_w, i32_w]; rw [c7b0]) | skip)
          have H' := Aside0.mk H
          clear H
          go_wp2
          go_meet
          case rel => exact ⟨_, (false), (by first | rfl | (simp; done) | (simp [*]; done)), H', ⟨by have := HK1.out; first | omega | exact Nat.le_refl _⟩, ⟨by (with_reducible repeat (first | apply Kd.R_alloc | apply Kd.R_drewN | apply Kd.R_drew)); exact HO_8.out⟩, ⟨by repeat (first | (with_reducible first | exact HB.out | apply below_alloc | apply pw_below_drewN | apply below_drew1) | exact HB.out)⟩⟩
      case rest =>
        clear HC6
        try clear c1
        try clear p2
        try clear c7
        try clear c7b0
        try clear p2
        obtain ⟨kq, x31_5, rfl, HA, HJ5, HO_8, HB⟩ := hcut
        cases kq with
        | zero => exact absurd HA.out (by simp [vivariumlaw17_LinearMakes.j1])
        | succ kj5 =>
          have H := HA.out
          clear HA
          simp only [vivariumlaw17_LinearMakes.j1] at H
          by_cases c9 : x31_5 = true
          · subst c9
            have H1 : (if 0 ≤ x9_1 then (if x9_1 < (l0.length : Int) then (vivariumlaw17_LinearMakes.l1 kj5 l0 a1 a2 t524 x8_1 x9_1 (Int.tmod (rd l0 x9_1) 9) true 0) else (none)) else (none)) = some r := by rw [if_pos rfl] at H; exact H
            clear H
            have H := H1
            clear H1
            by_cases c10 : 0 ≤ x9_1
            · rw [if_pos c10] at H
              have c10b0 : decide (0 ≤ x9_1) = true := decide_eq_true c10
              clear c10
              by_cases c11 : x9_1 < (l0.length : Int)
              · rw [if_pos c11] at H
                have c11b0 : decide (x9_1 < (l0.length : Int)) = true := decide_eq_true c11
                clear c11
                have H' := Aside0.mk H
                clear H
                have p525 : 0 ≤ (x9_1 : Int) := of_decide_eq_true (by first | (with_reducible assumption) | assumption)
                have q525 : x9_1 < (l0.length : Int) := of_decide_eq_true (by first | (with_reducible assumption) | assumption)
                obtain ⟨ad525, e525, hx525_0⟩ := Kd.at_int HR0.out x9_1 p525 q525
                cases e525
                replace hx525_0 := (HB.out.cell (World.block_lt_of_cell? w _ hx525_0)).trans hx525_0
                replace p525 := eq_true p525
                replace q525 := eq_true q525
                go_wp2
                go_loopg [11, 12] kj5 (fun kq v11 v12 w' => ∃ (x11_3 : Bool) (x12_3 : Int), v11 = .bool x11_3 ∧ v12 = .int .i64 x12_3 ∧ Aside0 (vivariumlaw17_LinearMakes.l1 kq l0 a1 a2 t524 x8_1 x9_1 (Int.tmod (rd l0 x9_1) 9) x11_3 x12_3 = some r) ∧ Aside0 (kq ≤ kj5) ∧ Aside0 (Kd.R (Kd.int .i64) 3 w' w.heap.size (fun _ => True) u8 x8_1) ∧ Aside0 (Below w.heap.size w w'))
                case atStart => exact ⟨(true), (0), (by first | rfl | (simp; done) | (simp [*]; done)), (by first | rfl | (simp; done) | (simp [*]; done)), H', ⟨Nat.le_refl _⟩, ⟨by (with_reducible repeat (first | apply Kd.R_alloc | apply Kd.R_drewN | apply Kd.R_drew)); exact HO_8.out⟩, ⟨by repeat (first | (with_reducible first | exact HB.out | apply below_alloc | apply pw_below_drewN | apply below_drew1) | exact HB.out)⟩⟩
                case round =>
                  clear H'
                  try clear c1
                  try clear p2
                  try clear p5
                  try clear q5
                  try clear hx5
                  try clear c7
                  try clear c7b0
                  try clear c9
                  try clear c10
                  try clear c10b0
                  try clear c11
                  try clear c11b0
                  try clear hx525_0
                  try clear p2
                  try clear p525
                  try clear q525
                  obtain ⟨x11_3, x12_3, rfl, rfl, HA, HK3, HO_8, HB⟩ := hrel
                  cases gk with
                  | zero => exact absurd HA.out (by simp [vivariumlaw17_LinearMakes.l1])
                  | succ k3 =>
                    have H := HA.out
                    clear HA
                    simp only [vivariumlaw17_LinearMakes.l1] at H
                    by_cases c12 : x12_3 < (x8_1.length : Int)
                    · rw [if_pos c12] at H
                      have c12b0 : decide (x12_3 < (x8_1.length : Int)) = true := decide_eq_true c12
                      clear c12
                      by_cases c13 : 0 ≤ x12_3
                      · rw [if_pos c13] at H
                        have c13b0 : decide (0 ≤ x12_3) = true := decide_eq_true c13
                        clear c13
                        by_cases c14 : (rd x8_1 x12_3) = (Int.tmod (rd l0 x9_1) 9)
                        · rw [if_pos c14] at H
                          have c14b0 : ((rd x8_1 x12_3) == (Int.tmod (rd l0 x9_1) 9)) = true := beq_iff_eq.mpr c14
                          have c14b1 : ((rd x8_1 x12_3) != (Int.tmod (rd l0 x9_1) 9)) = false := bne_eq_false_iff_eq.mpr c14
                          clear c14
                          have H' := Aside0.mk H
                          clear H
                          obtain ⟨Ao15, co15, eo15⟩ := Kd.R_slice HO_8.out
                          subst eo15
                          have p526 : 0 ≤ (x12_3 : Int) := of_decide_eq_true (by first | (with_reducible assumption) | assumption)
                          have q526 : x12_3 < (x8_1.length : Int) := of_decide_eq_true (by first | (with_reducible assumption) | assumption)
                          obtain ⟨ad526, e526, hx526_0⟩ := Kd.at_int (Kd.R_reads' HO_8.out).2.2 x12_3 p526 q526
                          cases e526
                          replace p526 := eq_true p526
                          replace q526 := eq_true q526
                          go_wp2
                          go_roundg k3
                          case measure => have := HK1.out; have := HJ5.out; have := HK3.out; omega
                          case rel => exact ⟨(false), (wrap64 (x12_3 + 1)), (by first | rfl | (simp; done) | (simp [*]; done)), (by first | rfl | (simp; done) | (simp [*]; done)), H', ⟨by have := HK1.out; have := HJ5.out; have := HK3.out; omega⟩, ⟨by (with_reducible repeat (first | apply Kd.R_alloc | apply Kd.R_drewN | apply Kd.R_drew)); exact HO_8.out⟩, ⟨by repeat (first | (with_reducible first | exact HB.out | apply below_alloc | apply pw_below_drewN | apply below_drew1) | exact HB.out)⟩⟩
                        · rw [if_neg c14] at H
                          have c14b0 : ((rd x8_1 x12_3) == (Int.tmod (rd l0 x9_1) 9)) = false := beq_eq_false_iff_ne.mpr c14
                          have c14b1 : ((rd x8_1 x12_3) != (Int.tmod (rd l0 x9_1) 9)) = true := bne_iff_ne.mpr c14
                          have H' := Aside0.mk H
                          clear H
                          obtain ⟨Ao16, co16, eo16⟩ := Kd.R_slice HO_8.out
                          subst eo16
                          have p526 : 0 ≤ (x12_3 : Int) := of_decide_eq_true (by first | (with_reducible assumption) | assumption)
                          have q526 : x12_3 < (x8_1.length : Int) := of_decide_eq_true (by first | (with_reducible assumption) | assumption)
                          obtain ⟨ad526, e526, hx526_0⟩ := Kd.at_int (Kd.R_reads' HO_8.out).2.2 x12_3 p526 q526
                          cases e526
                          replace p526 := eq_true p526
                          replace q526 := eq_true q526
                          go_wp2
                          go_roundg k3
                          case measure => have := HK1.out; have := HJ5.out; have := HK3.out; omega
                          case rel => exact ⟨(x11_3), (wrap64 (x12_3 + 1)), (by first | rfl | (simp; done) | (simp [*]; done)), (by first | rfl | (simp; done) | (simp [*]; done)), H', ⟨by have := HK1.out; have := HJ5.out; have := HK3.out; omega⟩, ⟨by (with_reducible repeat (first | apply Kd.R_alloc | apply Kd.R_drewN | apply Kd.R_drew)); exact HO_8.out⟩, ⟨by repeat (first | (with_reducible first | exact HB.out | apply below_alloc | apply pw_below_drewN | apply below_drew1) | exact HB.out)⟩⟩
                      · rw [if_neg c13] at H
                        exact absurd H (by simp)
                    · rw [if_neg c12] at H
                      have c12b0 : decide (x12_3 < (x8_1.length : Int)) = false := decide_eq_false c12
                      clear c12
                      by_cases c17 : x11_3 = true
                      · subst c17
                        have H1 : (if x8_1.length < 17592186044416 then (vivariumlaw17_LinearMakes.l0 k3 l0 a1 a2 t524 (x8_1 ++ [(Int.tmod (rd l0 x9_1) 9)]) (wrap64 (x9_1 + 1))) else (none)) = some r := by rw [if_pos rfl] at H; exact H
                        clear H
                        have H := H1
                        clear H1
                        by_cases c18 : x8_1.length < 17592186044416
                        · rw [if_pos c18] at H
                          have LMc18 := Aside0.mk c18
                          clear c18
                          obtain ⟨y527, hy527⟩ : ∃ y_ : List Int, y_ = (x8_1 ++ [(Int.tmod (rd l0 x9_1) 9)]) := ⟨_, rfl⟩
                          replace H : (vivariumlaw17_LinearMakes.l0 k3 l0 a1 a2 t524 y527 (wrap64 (x9_1 + 1))) = some r := by first | (rw [hy527]; with_reducible exact H) | (have H2_ := (Option.bind_some _ _).symm.trans H; rw [hy527]; with_reducible exact H2_) | (have H2_ := (Option.bind_some _ _).symm.trans H; with_reducible exact H2_) | with_reducible exact H | (rw [hy527]; exact H) | exact H
                          have Ny527 := Aside0.mk hy527
                          clear hy527
                          have H' := Aside0.mk H
                          clear H
                          obtain ⟨Ao19, co19, eo19⟩ := Kd.R_slice HO_8.out
                          subst eo19
                          go_wp2_with (first | ((with_reducible refine gate_builtin (b := .append) (xs := #[.tmp 52, .tmp 54]) rfl ?_); (try (refine gate_guard (by rfl) ?_; dsimp only)); at_builtin; refine Kd.R_append (Kd.int .i64) (w0 := w) w.heap.size rfl (.tmp 52) (.tmp 54) 49 3 (.int .i64 0) 8 rfl Try.underlying49 info3 rfl (by decide) (by omega) (.slice Ao19 x8_1.length co19) x8_1 (Int.tmod (rd l0 x9_1) 9) [.int .i64 (Int.tmod (rd l0 x9_1) 9)] (fun _ => True) (fun _ => False) rfl rfl ?aP (fun _ hk => hk.elim) ?aF ?aO ?aB ?aS ?aL ?_; (case aP => exact rfl); (case aB => exact (by repeat (first | (with_reducible first | exact HB.out | apply below_alloc | apply pw_below_drewN | apply below_drew1) | exact HB.out))); (case aF => exact (fun _ _ => trivial)); (case aO => exact (by (with_reducible repeat (first | apply Kd.R_alloc | apply Kd.R_drewN | apply Kd.R_drew)); exact HO_8.out)); (case aS => exact (below_size (by repeat (first | (with_reducible first | exact HB.out | apply below_alloc | apply pw_below_drewN | apply below_drew1) | exact HB.out)))); (case aL => have := LMc18.out; omega); intro v528 w20 ho hb hg hat; rw [← Ny527.out] at ho; have n0_ := Aside0.mk (hb); have n1_ := Aside0.mk (ho); clear HB; clear HO_8; have HB := n0_; have HO529 := n1_; clear n0_ n1_; clear ho hb hg hat))
                          go_roundg k3
                          case measure => have := HK1.out; have := HJ5.out; have := HK3.out; omega
                          case rel => exact ⟨(y527), (wrap64 (x9_1 + 1)), (by first | rfl | (simp; done) | (simp [*]; done)), H', ⟨by have := HK1.out; have := HJ5.out; have := HK3.out; omega⟩, ⟨by (with_reducible repeat (first | apply Kd.R_alloc | apply Kd.R_drewN | apply Kd.R_drew)); exact HO529.out⟩, ⟨by repeat (first | (with_reducible first | exact HB.out | apply below_alloc | apply pw_below_drewN | apply below_drew1) | exact HB.out)⟩⟩
                        · rw [if_neg c18] at H
                          exact absurd H (by simp)
                      · replace c17 := Bool.eq_false_iff.mpr c17
                        subst c17
                        have H1 : (vivariumlaw17_LinearMakes.l0 k3 l0 a1 a2 t524 x8_1 (wrap64 (x9_1 + 1))) = some r := by rw [if_neg (show ¬ (false = true) by decide)] at H; exact H
                        clear H
                        have H := H1
                        clear H1
                        have H' := Aside0.mk H
                        clear H
                        obtain ⟨Ao21, co21, eo21⟩ := Kd.R_slice HO_8.out
                        subst eo21
                        go_wp2
                        go_roundg k3
                        case measure => have := HK1.out; have := HJ5.out; have := HK3.out; omega
                        case rel => exact ⟨(x8_1), (wrap64 (x9_1 + 1)), (by first | rfl | (simp; done) | (simp [*]; done)), H', ⟨by have := HK1.out; have := HJ5.out; have := HK3.out; omega⟩, ⟨by (with_reducible repeat (first | apply Kd.R_alloc | apply Kd.R_drewN | apply Kd.R_drew)); exact HO_8.out⟩, ⟨by repeat (first | (with_reducible first | exact HB.out | apply below_alloc | apply pw_below_drewN | apply below_drew1) | exact HB.out)⟩⟩
              · rw [if_neg c11] at H
                exact absurd H (by simp)
            · rw [if_neg c10] at H
              exact absurd H (by simp)
          · replace c9 := Bool.eq_false_iff.mpr c9
            subst c9
            have H1 : ((vivariumlaw17_up.f a1 13).bind fun t530 => (if 601 ≤ 281474976710656 then ((some (List.replicate 601 false : List Bool)).bind fun y531 => (if 300 < (y531.length : Int) then (vivariumlaw17_LinearMakes.l2 kj5 t524 x8_1 t530 (Int.tmod a2 130) (y531.set (300 : Int).toNat true) 0) else (none))) else (none))) = some r := by rw [if_neg (show ¬ (false = true) by decide)] at H; exact H
            clear H
            have H := H1
            clear H1
            replace H := Option.bind_eq_some_iff.mp H
            obtain ⟨t530, A220, H⟩ := H
            replace H : (if 601 ≤ 281474976710656 then ((some (List.replicate 601 false : List Bool)).bind fun y531 => (if 300 < (y531.length : Int) then (vivariumlaw17_LinearMakes.l2 kj5 t524 x8_1 t530 (Int.tmod a2 130) (y531.set (300 : Int).toNat true) 0) else (none))) else (none)) = some r := H
            have A22 := Aside0.mk A220
            clear A220
            by_cases c23 : 601 ≤ 281474976710656
            · rw [if_pos c23] at H
              have c23b0 := eq_true c23
              have c23b1 : decide (601 ≤ 281474976710656) = true := decide_eq_true c23
              clear c23
              obtain ⟨y531, hy531⟩ : ∃ y_ : List Bool, y_ = (List.replicate 601 false) := ⟨_, rfl⟩
              replace H : (if 300 < (y531.length : Int) then (vivariumlaw17_LinearMakes.l2 kj5 t524 x8_1 t530 (Int.tmod a2 130) (y531.set (300 : Int).toNat true) 0) else (none)) = some r := by first | (rw [hy531]; with_reducible exact H) | (have H2_ := (Option.bind_some _ _).symm.trans H; rw [hy531]; with_reducible exact H2_) | (have H2_ := (Option.bind_some _ _).symm.trans H; with_reducible exact H2_) | with_reducible exact H | (rw [hy531]; exact H) | exact H
              have Ny531 := Aside0.mk hy531
              clear hy531
              by_cases c24 : 300 < (y531.length : Int)
              · rw [if_pos c24] at H
                have c24b0 : decide (300 < (y531.length : Int)) = true := decide_eq_true c24
                have c24b1 : decide (300 < y531.length) = true := decide_eq_true (by omega)
                clear c24
                obtain ⟨y534, hy534⟩ : ∃ y_ : List Bool, y_ = (y531.set (300 : Int).toNat true) := ⟨_, rfl⟩
                replace H : (vivariumlaw17_LinearMakes.l2 kj5 t524 x8_1 t530 (Int.tmod a2 130) y534 0) = some r := by first | (rw [hy534]; with_reducible exact H) | (have H2_ := (Option.bind_some _ _).symm.trans H; rw [hy534]; with_reducible exact H2_) | (have H2_ := (Option.bind_some _ _).symm.trans H; with_reducible exact H2_) | with_reducible exact H | (rw [hy534]; exact H) | exact H
                have Ny534 := Aside0.mk hy534
                clear hy534
                have H' := Aside0.mk H
                clear H
                go_wp2_with (first | ((with_reducible refine gate_callee (f := 33) rfl ?_); refine goesL_ (some 57) rfl rfl Try.func33 (by kernel_rfl) rfl #[.int .i64 a1, .int .i64 13] rfl (by (try simp only [List.map_toArray, List.map_cons, List.map_nil]); first | done | rfl | (simp only [List.length_drop, List.length_take]; rfl)) ?_; (with_reducible refine (vivariumlaw17_up.calls a1 13 t530 _ A22.out).mono ?_); rintro e w' ⟨rfl, ⟨nd, rfl⟩⟩; refine ⟨_, rfl, ?_⟩; (try (rw [drewN_self wc]; generalize hq_ : World.drewN wc _ = wc; have n0_ : Aside0 (Kd.R (Kd.int .i64) 3 wc w.heap.size (fun _ => True) u8 x8_1) := ⟨by rw [← hq_]; exact (by (with_reducible repeat (first | apply Kd.R_alloc | apply Kd.R_drewN | apply Kd.R_drew)); exact HO_8.out)⟩; have n1_ : Aside0 (Below w.heap.size w wc) := ⟨by rw [← hq_]; exact (by repeat (first | (with_reducible first | exact HB.out | apply below_alloc | apply pw_below_drewN | apply below_drew1) | exact HB.out))⟩; clear HO_8 HB hq_; have HO_8 := n0_; have HB := n1_; clear n0_ n1_))) | ((with_reducible refine gate_dst (N := 60) rfl ?_); (try (refine gate_guard (by rfl) ?_; dsimp only)); refine Kd.R_make Kd.bool _ 4 rfl (N := 60) rfl 63 _ _ rfl 601 rfl rfl Try.underlying63 (.bool false) 1 info4 rfl (by decide) (by omega) false (ok := fun _ => True) (okp := fun _ => True) rfl (fun _ hk => hk) trivial (by omega) (by omega) (Below.refl _ _) (Nat.le_refl _) ?_; intro v532 w26 ho27 hb hg_ hnew_; clear hg_ hnew_; (first | rw [← Ny531.out] at ho27 | (simp only [Int.reduceToNat] at ho27; rw [← Ny531.out] at ho27)); have n0_ := Aside0.mk (Kd.R_below (by (with_reducible repeat (first | apply Kd.R_alloc | apply Kd.R_drewN | apply Kd.R_drew)); exact HO_8.out) hb); have n1_ := Aside0.mk (Kd.R_lower ho27 (below_size (by repeat (first | (with_reducible first | exact HB.out | apply below_alloc | apply pw_below_drewN | apply below_drew1) | exact HB.out)))); have n2_ := Aside0.mk (below_step (by repeat (first | (with_reducible first | exact HB.out | apply below_alloc | apply pw_below_drewN | apply below_drew1) | exact HB.out)) hb); clear HO_8; clear HB; have HO_8 := n0_; have HO533 := n1_; have HB := n2_; clear n0_ n1_ n2_; clear hb ho27; have p25 : 0 ≤ (300 : Int) := (by omega); have q25 : (300 : Int) < ((y531.length : Int) : Int) := of_decide_eq_true (by first | (with_reducible assumption) | assumption); have qi25 : (300 < y531.length) = True := eq_true (by omega); obtain ⟨go25, co25, eo25, gb25, gl25, cl25, HG25⟩ := Kd.R_form HO533.out (by omega); (first | cases eo25 | (injection eo25 with ea_ en_ ec_; (first | subst ea_ | (injection ea_ with ea_; subst ea_)); subst ec_; clear en_)); have GB25 := Aside0.mk gb25; have GG25 := Aside0.mk HG25; clear gb25 gl25 HG25; obtain ⟨hx25_0, hf25_0⟩ := Kd.R_celln false HO533.out (300 : Int) p25 q25; (try rw [show ((300 : Int)).toNat = 300 from rfl] at hx25_0); (try simp only [Nat.reduceMul, Nat.zero_mul, Nat.zero_add, Nat.reduceAdd] at hx25_0); (try rw [show ((300 : Int)).toNat = 300 from rfl] at hf25_0); (try simp only [Nat.reduceMul, Nat.zero_mul, Nat.zero_add, Nat.reduceAdd] at hf25_0); replace p25 := eq_true p25; replace q25 := eq_true q25; obtain ⟨hy28_, hz28_⟩ := Kd.R_celln false HO533.out (300 : Int) (by omega) (of_decide_eq_true (by first | (with_reducible assumption) | assumption)); (try simp only [Int.reduceToNat, Int.toNat_zero, Int.toNat_ofNat, Nat.reduceMul, Nat.zero_mul, Nat.zero_add] at hy28_ hz28_); (try rw [show ((300 : Int)).toNat = 300 from rfl] at hy28_); (try rw [show ((300 : Int)).toNat = 300 from rfl] at hz28_); have HP28 := Kd.R_putg HO533.out (300 : Int) true) | ((with_reducible refine gate_store (t := 4) (p := 62) rfl ?_); refine store_event (t := 4) (p := 62) (v := ?vo_w29) (w1 := (w26.setCell ⟨go25, (300 : Int).toNat, none⟩ (.bool true))) ?hg ?ho ?hn ?hr ?_; (case ho => rfl); (case hg => rfl); (case hn => rfl); (case hr => first | (go_simp; done) | (go_simp; rfl)); intro w29 hw; have hg : w26.grownBy w29 (some go25) := (by rw [hw]; exact HP28.2); have hp_ : Kd.R Kd.bool 4 w29 w.heap.size (fun _ => True) (.slice (some ⟨go25, 0, none⟩) y531.length co25) y534 := (by rw [hw, Ny534.out]; exact HP28.1); clear HP28; have n0_ := Aside0.mk (Kd.R_over' (v := (.slice (some ⟨go25, 0, none⟩) y531.length co25)) (by (with_reducible repeat (first | apply Kd.R_alloc | apply Kd.R_drewN | apply Kd.R_drew)); exact HO_8.out) (Kd.R_typed HO533.out) (by decide) hg); have n1_ := Aside0.mk (hp_); have n2_ := Aside0.mk ((by rw [hw]; exact below_set (HB.out) GB25.out : Below w.heap.size w w29)); clear HO_8; clear HO533; clear HB; have HO_8 := n0_; have HO533 := n1_; have HB := n2_; clear n0_ n1_ n2_; clear hg hw hp_))
                go_loopg [15, 16] kj5 (fun kq v15 v16 w' => ∃ (x15_3 : List Bool) (x16_3 : Int), v16 = .int .i64 x16_3 ∧ Aside0 (vivariumlaw17_LinearMakes.l2 kq t524 x8_1 t530 (Int.tmod a2 130) x15_3 x16_3 = some r) ∧ Aside0 (kq ≤ kj5) ∧ Aside0 (Kd.R (Kd.int .i64) 3 w' w.heap.size (fun _ => True) u8 x8_1) ∧ Aside0 (Kd.R Kd.bool 4 w' w.heap.size (fun _ => True) v15 x15_3) ∧ Aside0 (Below w.heap.size w w'))
                case atStart => exact ⟨(y534), (0), (by first | rfl | (simp; done) | (simp [*]; done)), H', ⟨Nat.le_refl _⟩, ⟨by (with_reducible repeat (first | apply Kd.R_alloc | apply Kd.R_drewN | apply Kd.R_drew)); exact HO_8.out⟩, ⟨by (with_reducible repeat (first | apply Kd.R_alloc | apply Kd.R_drewN | apply Kd.R_drew)); exact HO533.out⟩, ⟨by repeat (first | (with_reducible first | exact HB.out | apply below_alloc | apply pw_below_drewN | apply below_drew1) | exact HB.out)⟩⟩
                case round =>
                  clear H'
                  try clear c1
                  try clear c2
                  try clear p2
                  try clear q2
                  try clear hx2
                  try clear qi2
                  try clear c3
                  try clear p5
                  try clear q5
                  try clear hx5
                  try clear p6
                  try clear c7
                  try clear c7b0
                  try clear c9
                  try clear c10
                  try clear c10b0
                  try clear c11
                  try clear c11b0
                  try clear c12
                  try clear c12b0
                  try clear c13
                  try clear c13b0
                  try clear c14
                  try clear c14b0
                  try clear c14b1
                  try clear c17
                  try clear c18
                  try clear c23
                  try clear c23b0
                  try clear c23b1
                  try clear c24
                  try clear c24b0
                  try clear c24b1
                  try clear p25
                  try clear q25
                  try clear hx25
                  try clear qi25
                  try clear hf25
                  try clear hx25_0
                  try clear hx525_0
                  try clear hx526_0
                  try clear p2
                  try clear p25
                  try clear p5
                  try clear p525
                  try clear p526
                  try clear q25
                  try clear q5
                  try clear q525
                  try clear q526
                  obtain ⟨x15_3, x16_3, rfl, HA, HK3, HO_8, HO_15, HB⟩ := hrel
                  cases gk with
                  | zero => exact absurd HA.out (by simp [vivariumlaw17_LinearMakes.l2])
                  | succ k3 =>
                    have H := HA.out
                    clear HA
                    simp only [vivariumlaw17_LinearMakes.l2] at H
                    by_cases c30 : x16_3 < t530
                    · rw [if_pos c30] at H
                      have c30b0 : decide (x16_3 < t530) = true := decide_eq_true c30
                      clear c30
                      by_cases c31 : 601 ≤ 281474976710656
                      · rw [if_pos c31] at H
                        have c31b0 := eq_true c31
                        have c31b1 : decide (601 ≤ 281474976710656) = true := decide_eq_true c31
                        clear c31
                        obtain ⟨y538, hy538⟩ : ∃ y_ : List Bool, y_ = (List.replicate 601 false) := ⟨_, rfl⟩
                        replace H : (vivariumlaw17_LinearMakes.l3 k3 t524 x8_1 t530 (Int.tmod a2 130) x15_3 x16_3 y538 100) = some r := by first | (rw [hy538]; with_reducible exact H) | (have H2_ := (Option.bind_some _ _).symm.trans H; rw [hy538]; with_reducible exact H2_) | (have H2_ := (Option.bind_some _ _).symm.trans H; with_reducible exact H2_) | with_reducible exact H | (rw [hy538]; exact H) | exact H
                        have Ny538 := Aside0.mk hy538
                        clear hy538
                        have H' := Aside0.mk H
                        clear H
                        go_wp2_with (first | ((with_reducible refine gate_dst (N := 68) rfl ?_); (try (refine gate_guard (by rfl) ?_; dsimp only)); refine Kd.R_make Kd.bool _ 4 rfl (N := 68) rfl 63 _ _ rfl 601 rfl rfl Try.underlying63 (.bool false) 1 info4 rfl (by decide) (by omega) false (ok := fun _ => True) (okp := fun _ => True) rfl (fun _ hk => hk) trivial (by omega) (by omega) (Below.refl _ _) (Nat.le_refl _) ?_; intro v539 w32 ho33 hb hg_ hnew_; clear hg_ hnew_; (first | rw [← Ny538.out] at ho33 | (simp only [Int.reduceToNat] at ho33; rw [← Ny538.out] at ho33)); have n0_ := Aside0.mk (Kd.R_below (by (with_reducible repeat (first | apply Kd.R_alloc | apply Kd.R_drewN | apply Kd.R_drew)); exact HO_8.out) hb); have n1_ := Aside0.mk (Kd.R_elder' (by (with_reducible repeat (first | apply Kd.R_alloc | apply Kd.R_drewN | apply Kd.R_drew)); exact HO_15.out) (Kd.R_base ho33) hb); have n2_ := Aside0.mk (Kd.R_lower (Kd.R_new' ho33 (Kd.R_lt (by (with_reducible repeat (first | apply Kd.R_alloc | apply Kd.R_drewN | apply Kd.R_drew)); exact HO_15.out))) (below_size (by repeat (first | (with_reducible first | exact HB.out | apply below_alloc | apply pw_below_drewN | apply below_drew1) | exact HB.out)))); have n3_ := Aside0.mk (below_step (by repeat (first | (with_reducible first | exact HB.out | apply below_alloc | apply pw_below_drewN | apply below_drew1) | exact HB.out)) hb); clear HO_8; clear HO_15; clear HB; have HO_8 := n0_; have HO_15 := n1_; have HO540 := n2_; have HB := n3_; clear n0_ n1_ n2_ n3_; clear hb ho33))
                        go_loopg [18] k3 (fun kq v18 w' => ∃ (x17_4 : List Bool) (x18_4 : Int), v18 = .int .i64 x18_4 ∧ Aside0 (vivariumlaw17_LinearMakes.l3 kq t524 x8_1 t530 (Int.tmod a2 130) x15_3 x16_3 x17_4 x18_4 = some r) ∧ Aside0 (kq ≤ k3) ∧ Aside0 (Kd.R (Kd.int .i64) 3 w' w.heap.size (fun _ => True) u8 x8_1) ∧ Aside0 (Kd.R Kd.bool 4 w' w.heap.size (fun k_ => some k_ ≠ (v539 : Value).ownBlock) u15 x15_3) ∧ Aside0 (Kd.R Kd.bool 4 w' w.heap.size (fun k_ => some k_ ≠ (u15 : Value).ownBlock) v539 x17_4) ∧ Aside0 (Below w.heap.size w w'))
                        case atStart => exact ⟨(y538), (100), (by first | rfl | (simp; done) | (simp [*]; done)), H', ⟨Nat.le_refl _⟩, ⟨by (with_reducible repeat (first | apply Kd.R_alloc | apply Kd.R_drewN | apply Kd.R_drew)); exact HO_8.out⟩, ⟨by (with_reducible repeat (first | apply Kd.R_alloc | apply Kd.R_drewN | apply Kd.R_drew)); exact Kd.R_mono HO_15.out (fun _ hk => hk.2)⟩, ⟨by (with_reducible repeat (first | apply Kd.R_alloc | apply Kd.R_drewN | apply Kd.R_drew)); exact Kd.R_mono HO540.out (fun _ hk => hk.2)⟩, ⟨by repeat (first | (with_reducible first | exact HB.out | apply below_alloc | apply pw_below_drewN | apply below_drew1) | exact HB.out)⟩⟩
                        case round =>
                          clear H'
                          try clear c1
                          try clear c2
                          try clear p2
                          try clear q2
                          try clear hx2
                          try clear qi2
                          try clear c3
                          try clear p5
                          try clear q5
                          try clear hx5
                          try clear p6
                          try clear c7
                          try clear c7b0
                          try clear c9
                          try clear c10
                          try clear c10b0
                          try clear c11
                          try clear c11b0
                          try clear c12
                          try clear c12b0
                          try clear c13
                          try clear c13b0
                          try clear c14
                          try clear c14b0
                          try clear c14b1
                          try clear c17
                          try clear c18
                          try clear c23
                          try clear c23b0
                          try clear c23b1
                          try clear c24
                          try clear c24b0
                          try clear c24b1
                          try clear p25
                          try clear q25
                          try clear hx25
                          try clear qi25
                          try clear hf25
                          try clear c30
                          try clear c30b0
                          try clear c31
                          try clear c31b0
                          try clear c31b1
                          try clear c33
                          try clear hx25_0
                          try clear hx525_0
                          try clear hx526_0
                          try clear p2
                          try clear p25
                          try clear p5
                          try clear p525
                          try clear p526
                          try clear p6
                          try clear q2
                          try clear q25
                          try clear q5
                          try clear q525
                          try clear q526
                          obtain ⟨x17_4, x18_4, rfl, HA, HK4, HO_8, HO_15, HO_17, HB⟩ := hrel
                          cases gk with
                          | zero => exact absurd HA.out (by simp [vivariumlaw17_LinearMakes.l3])
                          | succ k4 =>
                            have H := HA.out
                            clear HA
                            simp only [vivariumlaw17_LinearMakes.l3] at H
                            by_cases c34 : x18_4 ≤ 500
                            · rw [if_pos c34] at H
                              have c34b0 : decide (x18_4 ≤ 500) = true := decide_eq_true c34
                              clear c34
                              have H' := Aside0.mk H
                              clear H
                              go_wp2
                              go_loopg [19] k4 (fun kq v19 w' => ∃ (x17_5 : List Bool) (x19_5 : Int), v19 = .int .i64 x19_5 ∧ Aside0 (vivariumlaw17_LinearMakes.l4 kq t524 x8_1 t530 (Int.tmod a2 130) x15_3 x16_3 x17_5 x18_4 x19_5 = some r) ∧ Aside0 (kq ≤ k4) ∧ Aside0 (Kd.R (Kd.int .i64) 3 w' w.heap.size (fun _ => True) u8 x8_1) ∧ Aside0 (Kd.R Kd.bool 4 w' w.heap.size (fun k_ => some k_ ≠ (v539 : Value).ownBlock) u15 x15_3) ∧ Aside0 (Kd.R Kd.bool 4 w' w.heap.size (fun k_ => some k_ ≠ (u15 : Value).ownBlock) v539 x17_5) ∧ Aside0 (Below w.heap.size w w'))
                              case atStart => exact ⟨(x17_4), (0), (by first | rfl | (simp; done) | (simp [*]; done)), H', ⟨Nat.le_refl _⟩, ⟨by (with_reducible repeat (first | apply Kd.R_alloc | apply Kd.R_drewN | apply Kd.R_drew)); exact HO_8.out⟩, ⟨by (with_reducible repeat (first | apply Kd.R_alloc | apply Kd.R_drewN | apply Kd.R_drew)); exact HO_15.out⟩, ⟨by (with_reducible repeat (first | apply Kd.R_alloc | apply Kd.R_drewN | apply Kd.R_drew)); exact HO_17.out⟩, ⟨by repeat (first | (with_reducible first | exact HB.out | apply below_alloc | apply pw_below_drewN | apply below_drew1) | exact HB.out)⟩⟩
                              case round =>
                                clear H'
                                try clear c1
                                try clear c2
                                try clear p2
                                try clear q2
                                try clear hx2
                                try clear qi2
                                try clear c3
                                try clear p5
                                try clear q5
                                try clear hx5
                                try clear p6
                                try clear c7
                                try clear c7b0
                                try clear c9
                                try clear c10
                                try clear c10b0
                                try clear c11
                                try clear c11b0
                                try clear c12
                                try clear c12b0
                                try clear c13
                                try clear c13b0
                                try clear c14
                                try clear c14b0
                                try clear c14b1
                                try clear c17
                                try clear c18
                                try clear c23
                                try clear c23b0
                                try clear c23b1
                                try clear c24
                                try clear c24b0
                                try clear c24b1
                                try clear p25
                                try clear q25
                                try clear hx25
                                try clear qi25
                                try clear hf25
                                try clear c30
                                try clear c30b0
                                try clear c31
                                try clear c31b0
                                try clear c31b1
                                try clear c33
                                try clear c34
                                try clear c34b0
                                try clear hx25_0
                                try clear hx525_0
                                try clear hx526_0
                                try clear p2
                                try clear p25
                                try clear p5
                                try clear p525
                                try clear p526
                                try clear p6
                                try clear q2
                                try clear q25
                                try clear q5
                                try clear q525
                                try clear q526
                                obtain ⟨x17_5, x19_5, rfl, HA, HK5, HO_8, HO_15, HO_17, HB⟩ := hrel
                                cases gk with
                                | zero => exact absurd HA.out (by simp [vivariumlaw17_LinearMakes.l4])
                                | succ k5 =>
                                  have H := HA.out
                                  clear HA
                                  simp only [vivariumlaw17_LinearMakes.l4] at H
                                  by_cases c35 : x19_5 < (x8_1.length : Int)
                                  · rw [if_pos c35] at H
                                    have c35b0 : decide (x19_5 < (x8_1.length : Int)) = true := decide_eq_true c35
                                    clear c35
                                    by_cases c36 : 0 ≤ x19_5
                                    · rw [if_pos c36] at H
                                      have c36b0 : decide (0 ≤ x19_5) = true := decide_eq_true c36
                                      clear c36
                                      obtain ⟨ji37, hji37⟩ : ∃ j_ : Int, (wrap64 (x18_4 + (rd x8_1 x19_5))) = j_ := ⟨_, rfl⟩
                                      replace H : (if 0 ≤ (ji37) then (if (ji37) < (x15_3.length : Int) then (if rdOf false x15_3 (ji37) = true then (if 0 ≤ x18_4 then (if x18_4 < (x17_5.length : Int) then (vivariumlaw17_LinearMakes.l4 k5 t524 x8_1 t530 (Int.tmod a2 130) x15_3 x16_3 (x17_5.set (x18_4 : Int).toNat (!(rdOf false x17_5 x18_4))) x18_4 (wrap64 (x19_5 + 1))) else (none)) else (none)) else (vivariumlaw17_LinearMakes.l4 k5 t524 x8_1 t530 (Int.tmod a2 130) x15_3 x16_3 x17_5 x18_4 (wrap64 (x19_5 + 1)))) else (none)) else (none)) = some r := by first | (rw [hji37] at H; exact H) | (simp only [hji37] at H ⊢; exact H)
                                      have hji37w : (IntKind.i64.wrap (x18_4 + (rd x8_1 x19_5))) = ji37 := (i64_w _).trans hji37
                                      by_cases c38 : 0 ≤ (ji37)
                                      · rw [if_pos c38] at H
                                        have c38b0 : decide (0 ≤ (ji37)) = true := decide_eq_true c38
                                        clear c38
                                        by_cases c39 : (ji37) < (x15_3.length : Int)
                                        · rw [if_pos c39] at H
                                          have c39b0 : decide ((ji37) < (x15_3.length : Int)) = true := decide_eq_true c39
                                          clear c39
                                          obtain ⟨bq40, hbq40⟩ : ∃ b_ : Bool, b_ = (rdOf false x15_3 (ji37)) := ⟨_, rfl⟩
                                          replace H : (if bq40 = true then (if 0 ≤ x18_4 then (if x18_4 < (x17_5.length : Int) then (vivariumlaw17_LinearMakes.l4 k5 t524 x8_1 t530 (Int.tmod a2 130) x15_3 x16_3 (x17_5.set (x18_4 : Int).toNat (!(rdOf false x17_5 x18_4))) x18_4 (wrap64 (x19_5 + 1))) else (none)) else (none)) else (vivariumlaw17_LinearMakes.l4 k5 t524 x8_1 t530 (Int.tmod a2 130) x15_3 x16_3 x17_5 x18_4 (wrap64 (x19_5 + 1)))) = some r := by rw [← hbq40] at H; exact H
                                          have Nbq40 := Aside0.mk hbq40
                                          clear hbq40
                                          by_cases c41 : bq40 = true
                                          · subst c41
                                            have H1 : (if 0 ≤ x18_4 then (if x18_4 < (x17_5.length : Int) then (vivariumlaw17_LinearMakes.l4 k5 t524 x8_1 t530 (Int.tmod a2 130) x15_3 x16_3 (x17_5.set (x18_4 : Int).toNat (!(rdOf false x17_5 x18_4))) x18_4 (wrap64 (x19_5 + 1))) else (none)) else (none)) = some r := by rw [if_pos rfl] at H; exact H
                                            clear H
                                            have H := H1
                                            clear H1
                                            by_cases c42 : 0 ≤ x18_4
                                            · rw [if_pos c42] at H
                                              have c42b0 : decide (0 ≤ x18_4) = true := decide_eq_true c42
                                              clear c42
                                              by_cases c43 : x18_4 < (x17_5.length : Int)
                                              · rw [if_pos c43] at H
                                                have c43b0 : decide (x18_4 < (x17_5.length : Int)) = true := decide_eq_true c43
                                                clear c43
                                                obtain ⟨y544, hy544⟩ : ∃ y_ : List Bool, y_ = (x17_5.set (x18_4 : Int).toNat (!(rdOf false x17_5 x18_4))) := ⟨_, rfl⟩
                                                replace H : (vivariumlaw17_LinearMakes.l4 k5 t524 x8_1 t530 (Int.tmod a2 130) x15_3 x16_3 y544 x18_4 (wrap64 (x19_5 + 1))) = some r := by first | (rw [hy544]; with_reducible exact H) | (have H2_ := (Option.bind_some _ _).symm.trans H; rw [hy544]; with_reducible exact H2_) | (have H2_ := (Option.bind_some _ _).symm.trans H; with_reducible exact H2_) | with_reducible exact H | (rw [hy544]; exact H) | exact H
                                                have Ny544 := Aside0.mk hy544
                                                clear hy544
                                                have H' := Aside0.mk H
                                                clear H
                                                obtain ⟨Ao45, co45, eo45⟩ := Kd.R_slice HO_8.out
                                                subst eo45
                                                have p541 : 0 ≤ (x19_5 : Int) := of_decide_eq_true (by first | (with_reducible assumption) | assumption)
                                                have q541 : x19_5 < (x8_1.length : Int) := of_decide_eq_true (by first | (with_reducible assumption) | assumption)
                                                obtain ⟨ad541, e541, hx541_0⟩ := Kd.at_int (Kd.R_reads' HO_8.out).2.2 x19_5 p541 q541
                                                cases e541
                                                replace p541 := eq_true p541
                                                replace q541 := eq_true q541
                                                obtain ⟨Ao46, co46, eo46⟩ := Kd.R_slice HO_15.out
                                                subst eo46
                                                have p542 : 0 ≤ ((ji37) : Int) := of_decide_eq_true (by first | (with_reducible assumption) | assumption)
                                                have q542 : (ji37) < (x15_3.length : Int) := of_decide_eq_true (by first | (with_reducible assumption) | assumption)
                                                obtain ⟨ad542, e542, hx542_0⟩ := Kd.at_bool (Kd.R_reads' HO_15.out).2.2 (ji37) p542 q542
                                                (try rw [← Nbq40.out] at hx542_0)
                                                cases e542
                                                replace p542 := eq_true p542
                                                replace q542 := eq_true q542
                                                obtain ⟨Ao47, co47, eo47⟩ := Kd.R_slice HO_17.out
                                                subst eo47
                                                have p543 : 0 ≤ (x18_4 : Int) := of_decide_eq_true (by first | (with_reducible assumption) | assumption)
                                                have q543 : x18_4 < (x17_5.length : Int) := of_decide_eq_true (by first | (with_reducible assumption) | assumption)
                                                obtain ⟨ad543, e543, hx543_0⟩ := Kd.at_bool (Kd.R_reads' HO_17.out).2.2 x18_4 p543 q543
                                                (try rw [← Nbq40.out] at hx543_0)
                                                cases e543
                                                replace p543 := eq_true p543
                                                replace q543 := eq_true q543
                                                have p44 : 0 ≤ (x18_4 : Int) := of_decide_eq_true (by first | (with_reducible assumption) | assumption)
                                                have q44 : (x18_4 : Int) < ((x17_5.length : Int) : Int) := of_decide_eq_true (by first | (with_reducible assumption) | assumption)
                                                obtain ⟨go44, co44, eo44, gb44, gl44, cl44, HG44⟩ := Kd.R_form HO_17.out (by omega)
                                                (first | cases eo44 | (injection eo44 with ea_ en_ ec_; (first | subst ea_ | (injection ea_ with ea_; subst ea_)); subst ec_; clear en_))
                                                have GB44 := Aside0.mk gb44
                                                have GG44 := Aside0.mk HG44
                                                clear gb44 gl44 HG44
                                                (first | simp only [add_plain] at hx543_0 | skip)
                                                obtain ⟨hx44_0, hf44_0⟩ := Kd.R_celln false HO_17.out (x18_4 : Int) p44 q44
                                                replace p44 := eq_true p44
                                                replace q44 := eq_true q44
                                                have HP48 := Kd.R_putg HO_17.out (x18_4 : Int) (!(rdOf false x17_5 x18_4))
                                                go_wp2_with (first | ((with_reducible refine gate_store (t := 4) (p := 95) rfl ?_); refine store_event (t := 4) (p := 95) (v := ?vo_w49) (w1 := (wr.setCell ⟨go44, (x18_4 : Int).toNat, none⟩ (.bool (!(rdOf false x17_5 x18_4))))) ?hg ?ho ?hn ?hr ?_; (case ho => rfl); (case hg => rfl); (case hn => rfl); (case hr => first | (go_simp; done) | (go_simp; rfl)); intro w49 hw; have hg : wr.grownBy w49 (some go44) := (by rw [hw]; exact HP48.2); have hp_ : Kd.R Kd.bool 4 w49 w.heap.size (fun k_ => some k_ ≠ (.slice (some ad542) x15_3.length co46 : Value).ownBlock) (.slice (some ⟨go44, 0, none⟩) x17_5.length co47) y544 := (by rw [hw, Ny544.out]; exact HP48.1); clear HP48; have n0_ := Aside0.mk (Kd.R_over' (v := (.slice (some ⟨go44, 0, none⟩) x17_5.length co47)) (by (with_reducible repeat (first | apply Kd.R_alloc | apply Kd.R_drewN | apply Kd.R_drew)); exact HO_8.out) (Kd.R_typed HO_17.out) (by decide) hg); have n1_ := Aside0.mk (Kd.R_after (v := (.slice (some ⟨go44, 0, none⟩) x17_5.length co47)) (v1 := (.slice (some ⟨go44, 0, none⟩) x17_5.length co47)) (ok := (fun _ => True)) (by (with_reducible repeat (first | apply Kd.R_alloc | apply Kd.R_drewN | apply Kd.R_drew)); exact Kd.R_mono HO_15.out (fun _ hk => ⟨trivial, hk⟩)) hg (.inl rfl)); have n2_ := Aside0.mk (hp_); have n3_ := Aside0.mk ((by rw [hw]; exact below_set (HB.out) GB44.out : Below w.heap.size w w49)); clear HO_8; clear HO_15; clear HO_17; clear HB; have HO_8 := n0_; have HO_15 := n1_; have HO_17 := n2_; have HB := n3_; clear n0_ n1_ n2_ n3_; clear hg hw hp_))
                                                go_roundg k5
                                                case measure => have := HK1.out; have := HJ5.out; have := HK3.out; have := HK4.out; have := HK5.out; omega
                                                case rel => exact ⟨(y544), (wrap64 (x19_5 + 1)), (by first | rfl | (simp; done) | (simp [*]; done)), H', ⟨by have := HK1.out; have := HJ5.out; have := HK3.out; have := HK4.out; have := HK5.out; omega⟩, ⟨by (with_reducible repeat (first | apply Kd.R_alloc | apply Kd.R_drewN | apply Kd.R_drew)); exact HO_8.out⟩, ⟨by (with_reducible repeat (first | apply Kd.R_alloc | apply Kd.R_drewN | apply Kd.R_drew)); exact Kd.R_mono HO_15.out (fun _ hk => hk.2)⟩, ⟨by (with_reducible repeat (first | apply Kd.R_alloc | apply Kd.R_drewN | apply Kd.R_drew)); exact HO_17.out⟩, ⟨by repeat (first | (with_reducible first | exact HB.out | apply below_alloc | apply pw_below_drewN | apply below_drew1) | exact HB.out)⟩⟩
                                              · rw [if_neg c43] at H
                                                exact absurd H (by simp)
                                            · rw [if_neg c42] at H
                                              exact absurd H (by simp)
                                          · replace c41 := Bool.eq_false_iff.mpr c41
                                            subst c41
                                            have H1 : (vivariumlaw17_LinearMakes.l4 k5 t524 x8_1 t530 (Int.tmod a2 130) x15_3 x16_3 x17_5 x18_4 (wrap64 (x19_5 + 1))) = some r := by rw [if_neg (show ¬ (false = true) by decide)] at H; exact H
                                            clear H
                                            have H := H1
                                            clear H1
                                            have H' := Aside0.mk H
                                            clear H
                                            obtain ⟨Ao50, co50, eo50⟩ := Kd.R_slice HO_8.out
                                            subst eo50
                                            have p541 : 0 ≤ (x19_5 : Int) := of_decide_eq_true (by first | (with_reducible assumption) | assumption)
                                            have q541 : x19_5 < (x8_1.length : Int) := of_decide_eq_true (by first | (with_reducible assumption) | assumption)
                                            obtain ⟨ad541, e541, hx541_0⟩ := Kd.at_int (Kd.R_reads' HO_8.out).2.2 x19_5 p541 q541
                                            cases e541
                                            replace p541 := eq_true p541
                                            replace q541 := eq_true q541
                                            obtain ⟨Ao51, co51, eo51⟩ := Kd.R_slice HO_15.out
                                            subst eo51
                                            have p542 : 0 ≤ ((ji37) : Int) := of_decide_eq_true (by first | (with_reducible assumption) | assumption)
                                            have q542 : (ji37) < (x15_3.length : Int) := of_decide_eq_true (by first | (with_reducible assumption) | assumption)
                                            obtain ⟨ad542, e542, hx542_0⟩ := Kd.at_bool (Kd.R_reads' HO_15.out).2.2 (ji37) p542 q542
                                            (try rw [← Nbq40.out] at hx542_0)
                                            cases e542
                                            replace p542 := eq_true p542
                                            replace q542 := eq_true q542
                                            go_wp2
                                            go_roundg k5
                                            case measure => have := HK1.out; have := HJ5.out; have := HK3.out; have := HK4.out; have := HK5.out; omega
                                            case rel => exact ⟨(x17_5), (wrap64 (x19_5 + 1)), (by first | rfl | (simp; done) | (simp [*]; done)), H', ⟨by have := HK1.out; have := HJ5.out; have := HK3.out; have := HK4.out; have := HK5.out; omega⟩, ⟨by (with_reducible repeat (first | apply Kd.R_alloc | apply Kd.R_drewN | apply Kd.R_drew)); exact HO_8.out⟩, ⟨by (with_reducible repeat (first | apply Kd.R_alloc | apply Kd.R_drewN | apply Kd.R_drew)); exact HO_15.out⟩, ⟨by (with_reducible repeat (first | apply Kd.R_alloc | apply Kd.R_drewN | apply Kd.R_drew)); exact HO_17.out⟩, ⟨by repeat (first | (with_reducible first | exact HB.out | apply below_alloc | apply pw_below_drewN | apply below_drew1) | exact HB.out)⟩⟩
                                        · rw [if_neg c39] at H
                                          exact absurd H (by simp)
                                      · rw [if_neg c38] at H
                                        exact absurd H (by simp)
                                    · rw [if_neg c36] at H
                                      exact absurd H (by simp)
                                  · rw [if_neg c35] at H
                                    have c35b0 : decide (x19_5 < (x8_1.length : Int)) = false := decide_eq_false c35
                                    clear c35
                                    have H' := Aside0.mk H
                                    clear H
                                    obtain ⟨Ao52, co52, eo52⟩ := Kd.R_slice HO_8.out
                                    subst eo52
                                    go_wp2
                                    go_roundg k5
                                    case measure => have := HK1.out; have := HJ5.out; have := HK3.out; have := HK4.out; have := HK5.out; omega
                                    case rel => exact ⟨(x17_5), (wrap64 (x18_4 + 1)), (by first | rfl | (simp; done) | (simp [*]; done)), H', ⟨by have := HK1.out; have := HJ5.out; have := HK3.out; have := HK4.out; have := HK5.out; omega⟩, ⟨by (with_reducible repeat (first | apply Kd.R_alloc | apply Kd.R_drewN | apply Kd.R_drew)); exact HO_8.out⟩, ⟨by (with_reducible repeat (first | apply Kd.R_alloc | apply Kd.R_drewN | apply Kd.R_drew)); exact HO_15.out⟩, ⟨by (with_reducible repeat (first | apply Kd.R_alloc | apply Kd.R_drewN | apply Kd.R_drew)); exact HO_17.out⟩, ⟨by repeat (first | (with_reducible first | exact HB.out | apply below_alloc | apply pw_below_drewN | apply below_drew1) | exact HB.out)⟩⟩
                            · rw [if_neg c34] at H
                              have c34b0 : decide (x18_4 ≤ 500) = false := decide_eq_false c34
                              clear c34
                              have H' := Aside0.mk H
                              clear H
                              go_wp2
                              go_roundg k4
                              case measure => have := HK1.out; have := HJ5.out; have := HK3.out; have := HK4.out; omega
                              case rel => exact ⟨(x17_4), (wrap64 (x16_3 + 1)), (by first | rfl | (simp; done) | (simp [*]; done)), H', ⟨by have := HK1.out; have := HJ5.out; have := HK3.out; have := HK4.out; omega⟩, ⟨by (with_reducible repeat (first | apply Kd.R_alloc | apply Kd.R_drewN | apply Kd.R_drew)); exact HO_8.out⟩, ⟨by (with_reducible repeat (first | apply Kd.R_alloc | apply Kd.R_drewN | apply Kd.R_drew)); exact Kd.R_mono HO_17.out (fun _ hk => trivial)⟩, ⟨by repeat (first | (with_reducible first | exact HB.out | apply below_alloc | apply pw_below_drewN | apply below_drew1) | exact HB.out)⟩⟩
                      · rw [if_neg c31] at H
                        exact absurd H (by simp)
                    · rw [if_neg c30] at H
                      have c30b0 : decide (x16_3 < t530) = false := decide_eq_false c30
                      clear c30
                      replace H := Option.bind_eq_some_iff.mp H
                      obtain ⟨⟨t535, t536⟩, A530, H⟩ := H
                      replace H : (if t524 = true then (if t536 = 0 then (if 0 ≤ (wrap64 (300 + (Int.tmod a2 130))) then (if (wrap64 (300 + (Int.tmod a2 130))) < (x15_3.length : Int) then (some (t535 == (rdOf false x15_3 (wrap64 (300 + (Int.tmod a2 130)))))) else (none)) else (none)) else (some false)) else (some false)) = some r := H
                      have A53 := Aside0.mk A530
                      clear A530
                      by_cases c54 : t524 = true
                      · subst c54
                        have H1 : (if t536 = 0 then (if 0 ≤ (wrap64 (300 + (Int.tmod a2 130))) then (if (wrap64 (300 + (Int.tmod a2 130))) < (x15_3.length : Int) then (some (t535 == (rdOf false x15_3 (wrap64 (300 + (Int.tmod a2 130)))))) else (none)) else (none)) else (some false)) = some r := by rw [if_pos rfl] at H; exact H
                        clear H
                        have H := H1
                        clear H1
                        by_cases c55 : t536 = 0
                        · rw [if_pos c55] at H
                          have c55b0 : (t536 == 0) = true := beq_iff_eq.mpr c55
                          have c55b1 : (t536 != 0) = false := bne_eq_false_iff_eq.mpr c55
                          clear c55
                          obtain ⟨ji56, hji56⟩ : ∃ j_ : Int, (wrap64 (300 + (Int.tmod a2 130))) = j_ := ⟨_, rfl⟩
                          replace H : (if 0 ≤ (ji56) then (if (ji56) < (x15_3.length : Int) then (some (t535 == (rdOf false x15_3 (ji56)))) else (none)) else (none)) = some r := by first | (rw [hji56] at H; exact H) | (simp only [hji56] at H ⊢; exact H)
                          (try rw [hji56] at A53)
                          have hji56w : (IntKind.i64.wrap (300 + (Int.tmod a2 130))) = ji56 := (i64_w _).trans hji56
                          by_cases c57 : 0 ≤ (ji56)
                          · rw [if_pos c57] at H
                            have c57b0 : decide (0 ≤ (ji56)) = true := decide_eq_true c57
                            clear c57
                            by_cases c58 : (ji56) < (x15_3.length : Int)
                            · rw [if_pos c58] at H
                              have c58b0 : decide ((ji56) < (x15_3.length : Int)) = true := decide_eq_true c58
                              clear c58
                              obtain rfl := Option.some.inj H
                              obtain ⟨Ao59, co59, eo59⟩ := Kd.R_slice HO_8.out
                              subst eo59
                              go_wp2_with (first | ((with_reducible refine gate_callee (f := 28) rfl ?_); refine goesL_ (some 101) rfl rfl Try.func28 (by kernel_rfl) rfl #[.slice Ao59 x8_1.length co59, .int .i64 t530, .int .i64 (Int.tmod a2 130)] rfl (by (try simp only [List.map_toArray, List.map_cons, List.map_nil]); first | done | rfl | (simp only [List.length_drop, List.length_take]; rfl)) ?_; (with_reducible refine (linear_Line.calls _ _ x8_1 t530 (Int.tmod a2 130) t535 t536 _ ?side1 ?side2 A53.out).mono ?_); (case side1 => repeat (first | exact (Kd.R_reads' HO_8.out).2.2 | (with_reducible refine Kd.C_alloc ?_ _) | (with_reducible refine Kd.C_drewN ?_ _) | (with_reducible refine Kd.C_drew ?_))); (case side2 => exact (Kd.R_reads' HO_8.out).2.1); rintro e w60 ⟨rfl, hb⟩; refine ⟨_, rfl, ?_⟩; have n0_ := Aside0.mk (Kd.R_below (by (with_reducible repeat (first | apply Kd.R_alloc | apply Kd.R_drewN | apply Kd.R_drew)); exact HO_8.out) hb); have n1_ := Aside0.mk (Kd.R_below (by (with_reducible repeat (first | apply Kd.R_alloc | apply Kd.R_drewN | apply Kd.R_drew)); exact HO_15.out) hb); have n2_ := Aside0.mk (below_step (by repeat (first | (with_reducible first | exact HB.out | apply below_alloc | apply pw_below_drewN | apply below_drew1) | exact HB.out)) hb); clear HO_8; clear HO_15; clear HB; have HO_8 := n0_; have HO_15 := n1_; have HB := n2_; clear n0_ n1_ n2_; (try clear hb); (try clear hb2); (try clear hk); (try clear hi); obtain ⟨Ao61, co61, eo61⟩ := Kd.R_slice HO_15.out; subst eo61; have p537 : 0 ≤ ((ji56) : Int) := of_decide_eq_true (by first | (with_reducible assumption) | assumption); have q537 : (ji56) < (x15_3.length : Int) := of_decide_eq_true (by first | (with_reducible assumption) | assumption); obtain ⟨ad537, e537, hx537_0⟩ := Kd.at_bool (Kd.R_reads' HO_15.out).2.2 (ji56) p537 q537; cases e537; replace p537 := eq_true p537; replace q537 := eq_true q537))
                              go_ret
                              exact ⟨by first | rfl | (simp [errW_none, errW_some] <;> rfl) | (simp only [← hji56]; first | rfl | (simp [errW_none, errW_some] <;> rfl)) | (simp [*, errW_none, errW_some] <;> rfl), by repeat (first | (with_reducible first | exact HB.out | apply below_alloc | apply pw_below_drewN | apply below_drew1) | exact HB.out)⟩
                            · rw [if_neg c58] at H
                              exact absurd H (by simp)
                          · rw [if_neg c57] at H
                            exact absurd H (by simp)
                        · rw [if_neg c55] at H
                          have c55b0 : (t536 == 0) = false := beq_eq_false_iff_ne.mpr c55
                          have c55b1 : (t536 != 0) = true := bne_iff_ne.mpr c55
                          obtain rfl := Option.some.inj H
                          obtain ⟨Ao62, co62, eo62⟩ := Kd.R_slice HO_8.out
                          subst eo62
                          go_wp2_with (first | ((with_reducible refine gate_callee (f := 28) rfl ?_); refine goesL_ (some 101) rfl rfl Try.func28 (by kernel_rfl) rfl #[.slice Ao62 x8_1.length co62, .int .i64 t530, .int .i64 (Int.tmod a2 130)] rfl (by (try simp only [List.map_toArray, List.map_cons, List.map_nil]); first | done | rfl | (simp only [List.length_drop, List.length_take]; rfl)) ?_; (with_reducible refine (linear_Line.calls _ _ x8_1 t530 (Int.tmod a2 130) t535 t536 _ ?side1 ?side2 A53.out).mono ?_); (case side1 => repeat (first | exact (Kd.R_reads' HO_8.out).2.2 | (with_reducible refine Kd.C_alloc ?_ _) | (with_reducible refine Kd.C_drewN ?_ _) | (with_reducible refine Kd.C_drew ?_))); (case side2 => exact (Kd.R_reads' HO_8.out).2.1); rintro e w63 ⟨rfl, hb⟩; refine ⟨_, rfl, ?_⟩; have n0_ := Aside0.mk (Kd.R_below (by (with_reducible repeat (first | apply Kd.R_alloc | apply Kd.R_drewN | apply Kd.R_drew)); exact HO_8.out) hb); have n1_ := Aside0.mk (Kd.R_below (by (with_reducible repeat (first | apply Kd.R_alloc | apply Kd.R_drewN | apply Kd.R_drew)); exact HO_15.out) hb); have n2_ := Aside0.mk (below_step (by repeat (first | (with_reducible first | exact HB.out | apply below_alloc | apply pw_below_drewN | apply below_drew1) | exact HB.out)) hb); clear HO_8; clear HO_15; clear HB; have HO_8 := n0_; have HO_15 := n1_; have HB := n2_; clear n0_ n1_ n2_; (try clear hb); (try clear hb2); (try clear hk); (try clear hi)))
                          go_ret
                          exact ⟨by first | rfl | (simp [errW_none, errW_some] <;> rfl) | (simp [*, errW_none, errW_some] <;> rfl), by repeat (first | (with_reducible first | exact HB.out | apply below_alloc | apply pw_below_drewN | apply below_drew1) | exact HB.out)⟩
                      · replace c54 := Bool.eq_false_iff.mpr c54
                        subst c54
                        have H1 : (some false) = some r := by rw [if_neg (show ¬ (false = true) by decide)] at H; exact H
                        clear H
                        have H := H1
                        clear H1
                        obtain rfl := Option.some.inj H
                        obtain ⟨Ao64, co64, eo64⟩ := Kd.R_slice HO_8.out
                        subst eo64
                        go_wp2_with (first | ((with_reducible refine gate_callee (f := 28) rfl ?_); refine goesL_ (some 101) rfl rfl Try.func28 (by kernel_rfl) rfl #[.slice Ao64 x8_1.length co64, .int .i64 t530, .int .i64 (Int.tmod a2 130)] rfl (by (try simp only [List.map_toArray, List.map_cons, List.map_nil]); first | done | rfl | (simp only [List.length_drop, List.length_take]; rfl)) ?_; (with_reducible refine (linear_Line.calls _ _ x8_1 t530 (Int.tmod a2 130) t535 t536 _ ?side1 ?side2 A53.out).mono ?_); (case side1 => repeat (first | exact (Kd.R_reads' HO_8.out).2.2 | (with_reducible refine Kd.C_alloc ?_ _) | (with_reducible refine Kd.C_drewN ?_ _) | (with_reducible refine Kd.C_drew ?_))); (case side2 => exact (Kd.R_reads' HO_8.out).2.1); rintro e w65 ⟨rfl, hb⟩; refine ⟨_, rfl, ?_⟩; have n0_ := Aside0.mk (Kd.R_below (by (with_reducible repeat (first | apply Kd.R_alloc | apply Kd.R_drewN | apply Kd.R_drew)); exact HO_8.out) hb); have n1_ := Aside0.mk (Kd.R_below (by (with_reducible repeat (first | apply Kd.R_alloc | apply Kd.R_drewN | apply Kd.R_drew)); exact HO_15.out) hb); have n2_ := Aside0.mk (below_step (by repeat (first | (with_reducible first | exact HB.out | apply below_alloc | apply pw_below_drewN | apply below_drew1) | exact HB.out)) hb); clear HO_8; clear HO_15; clear HB; have HO_8 := n0_; have HO_15 := n1_; have HB := n2_; clear n0_ n1_ n2_; (try clear hb); (try clear hb2); (try clear hk); (try clear hi)))
                        go_ret
                        exact ⟨by first | rfl | (simp [errW_none, errW_some] <;> rfl) | (simp [*, errW_none, errW_some] <;> rfl), by repeat (first | (with_reducible first | exact HB.out | apply below_alloc | apply pw_below_drewN | apply below_drew1) | exact HB.out)⟩
              · rw [if_neg c24] at H
                exact absurd H (by simp)
            · rw [if_neg c23] at H
              exact absurd H (by simp)

/-- THE ONE PURE STATEMENT of vivariumlaw17_LinearMakes: yours. -/
def vivariumlaw17_LinearMakes.Pure : Prop := ∀ (l0 : List Int) (a1 : Int) (a2 : Int), l0.length ≤ maxLen → l0.length * 8 ≤ 140737488351232 → (∀ x ∈ l0, (Lit.int .i64 x).wf = true) → (Lit.int .i64 a1).wf = true → (Lit.int .i64 a2).wf = true → ∃ k, vivariumlaw17_LinearMakes.f k l0 a1 a2 = some true
theorem vivariumlaw17_LinearMakes.walk (P : vivariumlaw17_LinearMakes.Pure) (a0 : Option Addr) (len0 cap0 : Nat) (z0 : List Int) (a1 : Int) (a2 : Int) (w : World) (w0 : (a0 = none ∧ len0 = 0 ∧ cap0 = 0 ∧ z0 = []) ∨ ∃ x, a0 = some x ∧ len0 ≤ cap0 ∧ cap0 ≤ maxLen ∧ z0.length = cap0 ∧ (∀ i, i < z0.length → w.cell? (x.add i) = some (.int .i64 (z0.getD i 0))) ∧ ∀ n ∈ z0, (Lit.int .i64 n).wf = true) (y0 : len0 * 8 ≤ 140737488351232) (w1 : (Lit.int .i64 a1).wf = true) (w2 : (Lit.int .i64 a2).wf = true) :
    Calls Try.prog 9 #[.slice a0 len0 cap0, .int .i64 a1, .int .i64 a2] w fun e w' => e = .returned (.bool true) ∧ Below w.heap.size w w' := by
  obtain ⟨l0, rfl, hr0, hm0, hw0, hc0⟩ := ReadsInt.ofRowC w0
  obtain ⟨k, h⟩ := P l0 a1 a2 hm0 y0 hw0 w1 w2
  refine (vivariumlaw17_LinearMakes.calls k _ _ l0 a1 a2 true w (Kd.C_of_reads (d := (0 : Int)) (h1 := fun _ => rfl) hr0) hc0 h).mono ?_
  rintro e w' ⟨rfl, hd⟩
  exact ⟨rfl, hd⟩

end Go.Proofs.Ytomogkhdfaiekaa.PLin
