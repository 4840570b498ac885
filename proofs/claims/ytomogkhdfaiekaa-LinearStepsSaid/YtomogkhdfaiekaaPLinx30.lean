/-
  linear's laws: the torus that is made of any numbers; its walk.
-/
import Derived.Test.YtomogkhdfaiekaaPLinx0
import Derived.Test.YtomogkhdfaiekaaHTorus
namespace Go.Proofs.Ytomogkhdfaiekaa.PLin
open Go.Proofs.Ytomogkhdfaiekaa.HW Go.Proofs.Ytomogkhdfaiekaa.HSet Go.RowKit Go.Proofs.YtomogkhdfaiekaaW.PrintWords Go.Proofs.YtomogkhdfaiekaaW.PrintLast Go.Proofs.YtomogkhdfaiekaaW.PrintMore
set_option linter.unusedVariables false
set_option linter.unusedSimpArgs false

theorem up_eq (a n : Int) (hn : 0 < n) (hn2 : n ≤ 1125899906842624) : vivariumlaw17_up.f a n = some (a % n) := by
  unfold vivariumlaw17_up.f
  rw [if_neg (by omega)]
  have h1 := Int.mul_tdiv_add_tmod a n
  have h2 := Int.emod_add_mul_ediv a n
  have hm : -n < a.tmod n := by
    have := Int.tmod_lt_of_pos (-a) hn
    rw [Int.neg_tmod] at this
    omega
  have hm2 : a.tmod n < n := Int.tmod_lt_of_pos a hn
  have e : wrap64 (a.tmod n + n) = a.tmod n + n := w64 (by omega) (by omega)
  rw [e]
  by_cases c : a.tmod n < 0
  · have : a % n = a.tmod n + n := by
      refine Int.ediv_emod_unique (a := a) (b := n) (r := a.tmod n + n) (q := a.tdiv n - 1) hn |>.2 ⟨?_, by omega, by omega⟩ |>.2
      rw [Int.mul_sub]; omega
    rw [Int.tmod_eq_emod_of_nonneg (by omega), Int.emod_eq_of_lt (by omega) (by omega), this]
  · have : a % n = a.tmod n := by
      refine Int.ediv_emod_unique (a := a) (b := n) (r := a.tmod n) (q := a.tdiv n) hn |>.2 ⟨?_, by omega, by omega⟩ |>.2
      omega
    rw [Int.tmod_eq_emod_of_nonneg (by omega), Int.add_emod_right, Int.emod_eq_of_lt (by omega) (by omega), this]

theorem up_calls (a n : Int) (hn : 0 < n) (hn2 : n ≤ 1125899906842624) (w : World) :
    Calls Try.prog 33 #[.int .i64 a, .int .i64 n] w fun e w' => e = .returned (.int .i64 (a % n)) ∧ Drawn0 w w' := vivariumlaw17_up.calls a n (a % n) w (up_eq a n hn hn2)

def topoT (a0 a1 a2 a3 : Int) : Int × Int × Int × Int × Int :=
  if a2 % 3 ≠ 0 ∧ 0 < a3 % (if a2 % 3 = 2 then 1 + a1 % 12 else 1 + a0 % 12) then (2, 1 + a0 % 12, 1 + a1 % 12, a2 % 3, a3 % (if a2 % 3 = 2 then 1 + a1 % 12 else 1 + a0 % 12))
  else (2, 1 + a0 % 12, 1 + a1 % 12, 0, 0)

def vivariumlaw17_Torus_topo.f (a0 a1 a2 a3 : Int) : Option (Int × Int × Int × Int × Int) := some (topoT a0 a1 a2 a3)

theorem gen_world {P G : World → Prop} {w : World} (h : P w) (hG : ∀ w, P w → G w) : G w := hG w h

/-- What the torus' own walk has in memory, behind its first region. -/
def TopoAt (w : World) (a0 a1 a2 a3 W H : Int) (w1 : World) : Prop :=
  w1.heap[w.heap.size]? = some (.cells #[.int .i64 a0, .int .i64 a1, .int .i64 a2, .int .i64 a3] 56 (0, 0)) ∧ w1.heap[w.heap.size + 1]? = some (.cells #[.int .u8 0, .int .i64 0, .int .i64 0, .int .u8 0, .int .i64 0] 42 (0, 0)) ∧
    w1.heap[w.heap.size + 1 + 1]? = some (.cells #[.int .u8 2, .int .i64 (1 + W), .int .i64 (1 + H), .int .u8 0, .int .i64 0] 42 (0, 0)) ∧ Below w.heap.size w w1
theorem topoAt_1 (w : World) (a0 a1 a2 a3 W H : Int) (n : Nat) : TopoAt w a0 a1 a2 a3 W H ((((w.alloc (.cells #[.int .i64 a0, .int .i64 a1, .int .i64 a2, .int .i64 a3] 56)).alloc (.cells #[.int .u8 0, .int .i64 0, .int .i64 0, .int .u8 0, .int .i64 0] 42)).drewN n).alloc (.cells #[.int .u8 2, .int .i64 (1 + W), .int .i64 (1 + H), .int .u8 0, .int .i64 0] 42)) :=
  ⟨blk_alloc (blk_drewN (blk_alloc (alloc_new _ _) _) _) _, blk_alloc (blk_drewN (alloc_at (size_alloc _ _) _) _) _, alloc_at (size_dn (size_at (size_alloc _ _) _) _) _, below_alloc (pw_below_drewN (below_alloc (below_alloc (Below.refl _ _) _) _) _) _⟩
theorem topoAt_3 (w : World) (a0 a1 a2 a3 W H : Int) (n : Nat) : TopoAt w a0 a1 a2 a3 W H (((((((((w.alloc (.cells #[.int .i64 a0, .int .i64 a1, .int .i64 a2, .int .i64 a3] 56)).alloc (.cells #[.int .u8 0, .int .i64 0, .int .i64 0, .int .u8 0, .int .i64 0] 42)).alloc (.cells #[.int .u8 0, .int .i64 0, .int .i64 0, .int .u8 0, .int .i64 0] 42)).drewN n).setCell ⟨w.heap.size + 1 + 1, 0, none⟩ (.int .u8 2)).setCell ⟨w.heap.size + 1 + 1, 1, none⟩ (.int .i64 (1 + W))).setCell ⟨w.heap.size + 1 + 1, 2, none⟩ (.int .i64 (1 + H))).setCell ⟨w.heap.size + 1 + 1, 3, none⟩ (.int .u8 0)).setCell ⟨w.heap.size + 1 + 1, 4, none⟩ (.int .i64 0)) := by
  refine ⟨?_, ?_, ?_, ?_⟩
  · refine blk_far (blk_far (blk_far (blk_far (blk_far (blk_drewN (blk_alloc (blk_alloc (alloc_new _ _) _) _) _) ?_ _) ?_ _) ?_ _) ?_ _) ?_ _ <;> (dsimp only; omega)
  · refine blk_far (blk_far (blk_far (blk_far (blk_far (blk_drewN (blk_alloc (alloc_at (size_alloc _ _) _) _) _) ?_ _) ?_ _) ?_ _) ?_ _) ?_ _ <;> (dsimp only; omega)
  · exact blk_put (blk_put (blk_put (blk_put (blk_put (blk_drewN (alloc_at (size_at (size_alloc _ _) _) _) _) 0 _ rfl) 1 _ rfl) 2 _ rfl) 3 _ rfl) 4 _ rfl
  · exact below_set (below_set (below_set (below_set (below_set (pw_below_drewN (below_alloc (below_alloc (below_alloc (Below.refl _ _) _) _) _) _) (by omega)) (by omega)) (by omega)) (by omega)) (by omega)
theorem topoAt_2 (w : World) (a0 a1 a2 a3 W H : Int) (n m : Nat) : TopoAt w a0 a1 a2 a3 W H ((((((((((w.alloc (.cells #[.int .i64 a0, .int .i64 a1, .int .i64 a2, .int .i64 a3] 56)).alloc (.cells #[.int .u8 0, .int .i64 0, .int .i64 0, .int .u8 0, .int .i64 0] 42)).drewN n).alloc (.cells #[.int .u8 0, .int .i64 0, .int .i64 0, .int .u8 0, .int .i64 0] 42)).drewN m).setCell ⟨w.heap.size + 1 + 1, 0, none⟩ (.int .u8 2)).setCell ⟨w.heap.size + 1 + 1, 1, none⟩ (.int .i64 (1 + W))).setCell ⟨w.heap.size + 1 + 1, 2, none⟩ (.int .i64 (1 + H))).setCell ⟨w.heap.size + 1 + 1, 3, none⟩ (.int .u8 0)).setCell ⟨w.heap.size + 1 + 1, 4, none⟩ (.int .i64 0)) := by
  refine ⟨?_, ?_, ?_, ?_⟩
  · refine blk_far (blk_far (blk_far (blk_far (blk_far (blk_drewN (blk_alloc (blk_drewN (blk_alloc (alloc_new _ _) _) _) _) _) ?_ _) ?_ _) ?_ _) ?_ _) ?_ _ <;> (dsimp only; omega)
  · refine blk_far (blk_far (blk_far (blk_far (blk_far (blk_drewN (blk_alloc (blk_drewN (alloc_at (size_alloc _ _) _) _) _) _) ?_ _) ?_ _) ?_ _) ?_ _) ?_ _ <;> (dsimp only; omega)
  · exact blk_put (blk_put (blk_put (blk_put (blk_put (blk_drewN (alloc_at (size_dn (size_at (size_alloc _ _) _) _) _) _) 0 _ rfl) 1 _ rfl) 2 _ rfl) 3 _ rfl) 4 _ rfl
  · exact below_set (below_set (below_set (below_set (below_set (pw_below_drewN (below_alloc (pw_below_drewN (below_alloc (below_alloc (Below.refl _ _) _) _) _) _) _) (by omega)) (by omega)) (by omega)) (by omega)) (by omega)
set_option maxHeartbeats 1000000 in
set_option maxRecDepth 100000 in
theorem topo_w0 (a0 a1 a2 a3 W H s : Int) (w : World) (hW : a0 % 12 = W) (hH : a1 % 12 = H) (ht : a2 % 3 = 0) (hs : a3 % (1 + W) = s) :
    Calls Try.prog 30 #[.agg #[.int .i64 a0, .int .i64 a1, .int .i64 a2, .int .i64 a3]] w fun e w' => e = .returned (.agg #[.int .u8 2, .int .i64 (1 + W), .int .i64 (1 + H), .int .u8 0, .int .i64 0]) ∧ Below w.heap.size w w' := by
  have q0 := Int.emod_nonneg a0 (show (12 : Int) ≠ 0 by omega); have q1 := Int.emod_lt_of_pos a0 (show (0 : Int) < 12 by omega)
  have q2 := Int.emod_nonneg a1 (show (12 : Int) ≠ 0 by omega); have q3 := Int.emod_lt_of_pos a1 (show (0 : Int) < 12 by omega)
  rw [hW] at q0 q1
  rw [hH] at q2 q3
  have U0 := Aside0.mk (show ∀ w, Calls Try.prog 33 #[.int .i64 a0, .int .i64 12] w fun e w' => e = .returned (.int .i64 W) ∧ Drawn0 w w' from fun w => hW ▸ up_calls a0 12 (by omega) (by omega) w)
  have U1 := Aside0.mk (show ∀ w, Calls Try.prog 33 #[.int .i64 a1, .int .i64 12] w fun e w' => e = .returned (.int .i64 H) ∧ Drawn0 w w' from fun w => hH ▸ up_calls a1 12 (by omega) (by omega) w)
  have U2 := Aside0.mk (show ∀ w, Calls Try.prog 33 #[.int .i64 a2, .int .i64 3] w fun e w' => e = .returned (.int .i64 0) ∧ Drawn0 w w' from fun w => ht ▸ up_calls a2 3 (by omega) (by omega) w)
  have U3 := Aside0.mk (show ∀ w, Calls Try.prog 33 #[.int .i64 a3, .int .i64 (1 + W)] w fun e w' => e = .returned (.int .i64 s) ∧ Drawn0 w w' from fun w => hs ▸ up_calls a3 (1 + W) (by omega) (by omega) w)
  clear hW hH ht hs
  have s0 : IntKind.i64.wrap (1 + W) = 1 + W := IntWalk.i64_in _ (by omega)
  have s1 : IntKind.i64.wrap (1 + H) = 1 + H := IntWalk.i64_in _ (by omega)
  have hne : w.heap.size + 1 + 1 ≠ w.heap.size := by omega
  go_enter Try.func30, Try.ntmps30
  go_wp2_with fail
  go_region_held3 (fun w' => w'.cell? ⟨w.heap.size, 0, none⟩ = some (.int .i64 a0) ∧ w'.cell? ⟨w.heap.size, 1, none⟩ = some (.int .i64 a1))
    (first | go_keep | skip)
    (first | (go_at_call 33; (with_reducible refine (U0.out _).mono ?_); rintro e w3 ⟨rfl, ⟨n3, rfl⟩⟩) | (go_at_call 33; (with_reducible refine (U1.out _).mono ?_); rintro e w3 ⟨rfl, ⟨n3, rfl⟩⟩))
  all_goals refine gen_world (P := TopoAt w a0 a1 a2 a3 W H) (by first | with_reducible exact topoAt_1 _ _ _ _ _ _ _ _ | with_reducible exact topoAt_2 _ _ _ _ _ _ _ _ _ | with_reducible exact topoAt_3 _ _ _ _ _ _ _ _) ?_
  all_goals rintro w1 ⟨B0, B1, B2, HB⟩
  all_goals have c0 := blk_cell B0 2; have c1 := blk_cell B0 3; have d0 := blk_cell B2 0; have d1 := blk_cell B2 1; have d2 := blk_cell B2 2; have d3 := blk_cell B2 3; have d4 := blk_cell B2 4; have e0 := blk_cell B1 0; have e1 := blk_cell B1 1; have e2 := blk_cell B1 2; have e3 := blk_cell B1 3; have e4 := blk_cell B1 4
  all_goals simp at c0 c1 d0 d1 d2 d3 d4 e0 e1 e2 e3 e4
  all_goals have f1 := blk_frozen B1; have f2 := blk_frozen B2
  all_goals go_wp2_with fail
  all_goals refine (U2.out _).mono ?_; rintro e w4 ⟨rfl, ⟨n4, rfl⟩⟩
  all_goals go_wp2_with fail
  all_goals refine (U3.out _).mono ?_; rintro e w5 ⟨rfl, ⟨n5, rfl⟩⟩
  all_goals go_wp2
  all_goals refine bodyPost_ret (v := .agg #[.int .u8 2, .int .i64 (1 + W), .int .i64 (1 + H), .int .u8 0, .int .i64 0]) (by simp [results, Try.results30, go_sem, e0, e1, e2, e3, e4]) rfl ⟨rfl, ?_⟩
  all_goals repeat (with_reducible first | exact HB | apply below_alloc | apply pw_below_drewN | refine below_set ?_ (by omega))
set_option maxHeartbeats 1000000 in
set_option maxRecDepth 100000 in
theorem topo_w1y (a0 a1 a2 a3 W H s : Int) (w : World) (hW : a0 % 12 = W) (hH : a1 % 12 = H) (ht : a2 % 3 = 1) (hs : a3 % (1 + W) = s) (hd : decide (0 < s) = true) :
    Calls Try.prog 30 #[.agg #[.int .i64 a0, .int .i64 a1, .int .i64 a2, .int .i64 a3]] w fun e w' => e = .returned (.agg #[.int .u8 2, .int .i64 (1 + W), .int .i64 (1 + H), .int .u8 1, .int .i64 s]) ∧ Below w.heap.size w w' := by
  have q0 := Int.emod_nonneg a0 (show (12 : Int) ≠ 0 by omega); have q1 := Int.emod_lt_of_pos a0 (show (0 : Int) < 12 by omega)
  have q2 := Int.emod_nonneg a1 (show (12 : Int) ≠ 0 by omega); have q3 := Int.emod_lt_of_pos a1 (show (0 : Int) < 12 by omega)
  rw [hW] at q0 q1
  rw [hH] at q2 q3
  have U0 := Aside0.mk (show ∀ w, Calls Try.prog 33 #[.int .i64 a0, .int .i64 12] w fun e w' => e = .returned (.int .i64 W) ∧ Drawn0 w w' from fun w => hW ▸ up_calls a0 12 (by omega) (by omega) w)
  have U1 := Aside0.mk (show ∀ w, Calls Try.prog 33 #[.int .i64 a1, .int .i64 12] w fun e w' => e = .returned (.int .i64 H) ∧ Drawn0 w w' from fun w => hH ▸ up_calls a1 12 (by omega) (by omega) w)
  have U2 := Aside0.mk (show ∀ w, Calls Try.prog 33 #[.int .i64 a2, .int .i64 3] w fun e w' => e = .returned (.int .i64 1) ∧ Drawn0 w w' from fun w => ht ▸ up_calls a2 3 (by omega) (by omega) w)
  have U3 := Aside0.mk (show ∀ w, Calls Try.prog 33 #[.int .i64 a3, .int .i64 (1 + W)] w fun e w' => e = .returned (.int .i64 s) ∧ Drawn0 w w' from fun w => hs ▸ up_calls a3 (1 + W) (by omega) (by omega) w)
  clear hW hH ht hs
  have s0 : IntKind.i64.wrap (1 + W) = 1 + W := IntWalk.i64_in _ (by omega)
  have s1 : IntKind.i64.wrap (1 + H) = 1 + H := IntWalk.i64_in _ (by omega)
  have hne : w.heap.size + 1 + 1 ≠ w.heap.size := by omega
  go_enter Try.func30, Try.ntmps30
  go_wp2_with fail
  go_region_held3 (fun w' => w'.cell? ⟨w.heap.size, 0, none⟩ = some (.int .i64 a0) ∧ w'.cell? ⟨w.heap.size, 1, none⟩ = some (.int .i64 a1))
    (first | go_keep | skip)
    (first | (go_at_call 33; (with_reducible refine (U0.out _).mono ?_); rintro e w3 ⟨rfl, ⟨n3, rfl⟩⟩) | (go_at_call 33; (with_reducible refine (U1.out _).mono ?_); rintro e w3 ⟨rfl, ⟨n3, rfl⟩⟩))
  all_goals refine gen_world (P := TopoAt w a0 a1 a2 a3 W H) (by first | with_reducible exact topoAt_1 _ _ _ _ _ _ _ _ | with_reducible exact topoAt_2 _ _ _ _ _ _ _ _ _ | with_reducible exact topoAt_3 _ _ _ _ _ _ _ _) ?_
  all_goals rintro w1 ⟨B0, B1, B2, HB⟩
  all_goals have c0 := blk_cell B0 2; have c1 := blk_cell B0 3; have d0 := blk_cell B2 0; have d1 := blk_cell B2 1; have d2 := blk_cell B2 2; have d3 := blk_cell B2 3; have d4 := blk_cell B2 4; have e0 := blk_cell B1 0; have e1 := blk_cell B1 1; have e2 := blk_cell B1 2; have e3 := blk_cell B1 3; have e4 := blk_cell B1 4
  all_goals simp at c0 c1 d0 d1 d2 d3 d4 e0 e1 e2 e3 e4
  all_goals have f1 := blk_frozen B1; have f2 := blk_frozen B2
  all_goals go_wp2_with fail
  all_goals refine (U2.out _).mono ?_; rintro e w4 ⟨rfl, ⟨n4, rfl⟩⟩
  all_goals go_wp2_with fail
  all_goals refine (U3.out _).mono ?_; rintro e w5 ⟨rfl, ⟨n5, rfl⟩⟩
  all_goals go_wp2
  all_goals refine bodyPost_ret (v := .agg #[.int .u8 2, .int .i64 (1 + W), .int .i64 (1 + H), .int .u8 1, .int .i64 s]) (by simp [results, Try.results30, go_sem, e0, e1, e2, e3, e4]) rfl ⟨rfl, ?_⟩
  all_goals repeat (with_reducible first | exact HB | apply below_alloc | apply pw_below_drewN | refine below_set ?_ (by omega))
set_option maxHeartbeats 1000000 in
set_option maxRecDepth 100000 in
theorem topo_w1n (a0 a1 a2 a3 W H s : Int) (w : World) (hW : a0 % 12 = W) (hH : a1 % 12 = H) (ht : a2 % 3 = 1) (hs : a3 % (1 + W) = s) (hd : decide (0 < s) = false) :
    Calls Try.prog 30 #[.agg #[.int .i64 a0, .int .i64 a1, .int .i64 a2, .int .i64 a3]] w fun e w' => e = .returned (.agg #[.int .u8 2, .int .i64 (1 + W), .int .i64 (1 + H), .int .u8 0, .int .i64 0]) ∧ Below w.heap.size w w' := by
  have q0 := Int.emod_nonneg a0 (show (12 : Int) ≠ 0 by omega); have q1 := Int.emod_lt_of_pos a0 (show (0 : Int) < 12 by omega)
  have q2 := Int.emod_nonneg a1 (show (12 : Int) ≠ 0 by omega); have q3 := Int.emod_lt_of_pos a1 (show (0 : Int) < 12 by omega)
  rw [hW] at q0 q1
  rw [hH] at q2 q3
  have U0 := Aside0.mk (show ∀ w, Calls Try.prog 33 #[.int .i64 a0, .int .i64 12] w fun e w' => e = .returned (.int .i64 W) ∧ Drawn0 w w' from fun w => hW ▸ up_calls a0 12 (by omega) (by omega) w)
  have U1 := Aside0.mk (show ∀ w, Calls Try.prog 33 #[.int .i64 a1, .int .i64 12] w fun e w' => e = .returned (.int .i64 H) ∧ Drawn0 w w' from fun w => hH ▸ up_calls a1 12 (by omega) (by omega) w)
  have U2 := Aside0.mk (show ∀ w, Calls Try.prog 33 #[.int .i64 a2, .int .i64 3] w fun e w' => e = .returned (.int .i64 1) ∧ Drawn0 w w' from fun w => ht ▸ up_calls a2 3 (by omega) (by omega) w)
  have U3 := Aside0.mk (show ∀ w, Calls Try.prog 33 #[.int .i64 a3, .int .i64 (1 + W)] w fun e w' => e = .returned (.int .i64 s) ∧ Drawn0 w w' from fun w => hs ▸ up_calls a3 (1 + W) (by omega) (by omega) w)
  clear hW hH ht hs
  have s0 : IntKind.i64.wrap (1 + W) = 1 + W := IntWalk.i64_in _ (by omega)
  have s1 : IntKind.i64.wrap (1 + H) = 1 + H := IntWalk.i64_in _ (by omega)
  have hne : w.heap.size + 1 + 1 ≠ w.heap.size := by omega
  go_enter Try.func30, Try.ntmps30
  go_wp2_with fail
  go_region_held3 (fun w' => w'.cell? ⟨w.heap.size, 0, none⟩ = some (.int .i64 a0) ∧ w'.cell? ⟨w.heap.size, 1, none⟩ = some (.int .i64 a1))
    (first | go_keep | skip)
    (first | (go_at_call 33; (with_reducible refine (U0.out _).mono ?_); rintro e w3 ⟨rfl, ⟨n3, rfl⟩⟩) | (go_at_call 33; (with_reducible refine (U1.out _).mono ?_); rintro e w3 ⟨rfl, ⟨n3, rfl⟩⟩))
  all_goals refine gen_world (P := TopoAt w a0 a1 a2 a3 W H) (by first | with_reducible exact topoAt_1 _ _ _ _ _ _ _ _ | with_reducible exact topoAt_2 _ _ _ _ _ _ _ _ _ | with_reducible exact topoAt_3 _ _ _ _ _ _ _ _) ?_
  all_goals rintro w1 ⟨B0, B1, B2, HB⟩
  all_goals have c0 := blk_cell B0 2; have c1 := blk_cell B0 3; have d0 := blk_cell B2 0; have d1 := blk_cell B2 1; have d2 := blk_cell B2 2; have d3 := blk_cell B2 3; have d4 := blk_cell B2 4; have e0 := blk_cell B1 0; have e1 := blk_cell B1 1; have e2 := blk_cell B1 2; have e3 := blk_cell B1 3; have e4 := blk_cell B1 4
  all_goals simp at c0 c1 d0 d1 d2 d3 d4 e0 e1 e2 e3 e4
  all_goals have f1 := blk_frozen B1; have f2 := blk_frozen B2
  all_goals go_wp2_with fail
  all_goals refine (U2.out _).mono ?_; rintro e w4 ⟨rfl, ⟨n4, rfl⟩⟩
  all_goals go_wp2_with fail
  all_goals refine (U3.out _).mono ?_; rintro e w5 ⟨rfl, ⟨n5, rfl⟩⟩
  all_goals go_wp2
  all_goals refine bodyPost_ret (v := .agg #[.int .u8 2, .int .i64 (1 + W), .int .i64 (1 + H), .int .u8 0, .int .i64 0]) (by simp [results, Try.results30, go_sem, e0, e1, e2, e3, e4]) rfl ⟨rfl, ?_⟩
  all_goals repeat (with_reducible first | exact HB | apply below_alloc | apply pw_below_drewN | refine below_set ?_ (by omega))
set_option maxHeartbeats 1000000 in
set_option maxRecDepth 100000 in
theorem topo_w2y (a0 a1 a2 a3 W H s : Int) (w : World) (hW : a0 % 12 = W) (hH : a1 % 12 = H) (ht : a2 % 3 = 2) (hs : a3 % (1 + H) = s) (hd : decide (0 < s) = true) :
    Calls Try.prog 30 #[.agg #[.int .i64 a0, .int .i64 a1, .int .i64 a2, .int .i64 a3]] w fun e w' => e = .returned (.agg #[.int .u8 2, .int .i64 (1 + W), .int .i64 (1 + H), .int .u8 2, .int .i64 s]) ∧ Below w.heap.size w w' := by
  have q0 := Int.emod_nonneg a0 (show (12 : Int) ≠ 0 by omega); have q1 := Int.emod_lt_of_pos a0 (show (0 : Int) < 12 by omega)
  have q2 := Int.emod_nonneg a1 (show (12 : Int) ≠ 0 by omega); have q3 := Int.emod_lt_of_pos a1 (show (0 : Int) < 12 by omega)
  rw [hW] at q0 q1
  rw [hH] at q2 q3
  have U0 := Aside0.mk (show ∀ w, Calls Try.prog 33 #[.int .i64 a0, .int .i64 12] w fun e w' => e = .returned (.int .i64 W) ∧ Drawn0 w w' from fun w => hW ▸ up_calls a0 12 (by omega) (by omega) w)
  have U1 := Aside0.mk (show ∀ w, Calls Try.prog 33 #[.int .i64 a1, .int .i64 12] w fun e w' => e = .returned (.int .i64 H) ∧ Drawn0 w w' from fun w => hH ▸ up_calls a1 12 (by omega) (by omega) w)
  have U2 := Aside0.mk (show ∀ w, Calls Try.prog 33 #[.int .i64 a2, .int .i64 3] w fun e w' => e = .returned (.int .i64 2) ∧ Drawn0 w w' from fun w => ht ▸ up_calls a2 3 (by omega) (by omega) w)
  have U3 := Aside0.mk (show ∀ w, Calls Try.prog 33 #[.int .i64 a3, .int .i64 (1 + H)] w fun e w' => e = .returned (.int .i64 s) ∧ Drawn0 w w' from fun w => hs ▸ up_calls a3 (1 + H) (by omega) (by omega) w)
  clear hW hH ht hs
  have s0 : IntKind.i64.wrap (1 + W) = 1 + W := IntWalk.i64_in _ (by omega)
  have s1 : IntKind.i64.wrap (1 + H) = 1 + H := IntWalk.i64_in _ (by omega)
  have hne : w.heap.size + 1 + 1 ≠ w.heap.size := by omega
  go_enter Try.func30, Try.ntmps30
  go_wp2_with fail
  go_region_held3 (fun w' => w'.cell? ⟨w.heap.size, 0, none⟩ = some (.int .i64 a0) ∧ w'.cell? ⟨w.heap.size, 1, none⟩ = some (.int .i64 a1))
    (first | go_keep | skip)
    (first | (go_at_call 33; (with_reducible refine (U0.out _).mono ?_); rintro e w3 ⟨rfl, ⟨n3, rfl⟩⟩) | (go_at_call 33; (with_reducible refine (U1.out _).mono ?_); rintro e w3 ⟨rfl, ⟨n3, rfl⟩⟩))
  all_goals refine gen_world (P := TopoAt w a0 a1 a2 a3 W H) (by first | with_reducible exact topoAt_1 _ _ _ _ _ _ _ _ | with_reducible exact topoAt_2 _ _ _ _ _ _ _ _ _ | with_reducible exact topoAt_3 _ _ _ _ _ _ _ _) ?_
  all_goals rintro w1 ⟨B0, B1, B2, HB⟩
  all_goals have c0 := blk_cell B0 2; have c1 := blk_cell B0 3; have d0 := blk_cell B2 0; have d1 := blk_cell B2 1; have d2 := blk_cell B2 2; have d3 := blk_cell B2 3; have d4 := blk_cell B2 4; have e0 := blk_cell B1 0; have e1 := blk_cell B1 1; have e2 := blk_cell B1 2; have e3 := blk_cell B1 3; have e4 := blk_cell B1 4
  all_goals simp at c0 c1 d0 d1 d2 d3 d4 e0 e1 e2 e3 e4
  all_goals have f1 := blk_frozen B1; have f2 := blk_frozen B2
  all_goals go_wp2_with fail
  all_goals refine (U2.out _).mono ?_; rintro e w4 ⟨rfl, ⟨n4, rfl⟩⟩
  all_goals go_wp2_with fail
  all_goals refine (U3.out _).mono ?_; rintro e w5 ⟨rfl, ⟨n5, rfl⟩⟩
  all_goals go_wp2
  all_goals refine bodyPost_ret (v := .agg #[.int .u8 2, .int .i64 (1 + W), .int .i64 (1 + H), .int .u8 2, .int .i64 s]) (by simp [results, Try.results30, go_sem, e0, e1, e2, e3, e4]) rfl ⟨rfl, ?_⟩
  all_goals repeat (with_reducible first | exact HB | apply below_alloc | apply pw_below_drewN | refine below_set ?_ (by omega))
set_option maxHeartbeats 1000000 in
set_option maxRecDepth 100000 in
theorem topo_w2n (a0 a1 a2 a3 W H s : Int) (w : World) (hW : a0 % 12 = W) (hH : a1 % 12 = H) (ht : a2 % 3 = 2) (hs : a3 % (1 + H) = s) (hd : decide (0 < s) = false) :
    Calls Try.prog 30 #[.agg #[.int .i64 a0, .int .i64 a1, .int .i64 a2, .int .i64 a3]] w fun e w' => e = .returned (.agg #[.int .u8 2, .int .i64 (1 + W), .int .i64 (1 + H), .int .u8 0, .int .i64 0]) ∧ Below w.heap.size w w' := by
  have q0 := Int.emod_nonneg a0 (show (12 : Int) ≠ 0 by omega); have q1 := Int.emod_lt_of_pos a0 (show (0 : Int) < 12 by omega)
  have q2 := Int.emod_nonneg a1 (show (12 : Int) ≠ 0 by omega); have q3 := Int.emod_lt_of_pos a1 (show (0 : Int) < 12 by omega)
  rw [hW] at q0 q1
  rw [hH] at q2 q3
  have U0 := Aside0.mk (show ∀ w, Calls Try.prog 33 #[.int .i64 a0, .int .i64 12] w fun e w' => e = .returned (.int .i64 W) ∧ Drawn0 w w' from fun w => hW ▸ up_calls a0 12 (by omega) (by omega) w)
  have U1 := Aside0.mk (show ∀ w, Calls Try.prog 33 #[.int .i64 a1, .int .i64 12] w fun e w' => e = .returned (.int .i64 H) ∧ Drawn0 w w' from fun w => hH ▸ up_calls a1 12 (by omega) (by omega) w)
  have U2 := Aside0.mk (show ∀ w, Calls Try.prog 33 #[.int .i64 a2, .int .i64 3] w fun e w' => e = .returned (.int .i64 2) ∧ Drawn0 w w' from fun w => ht ▸ up_calls a2 3 (by omega) (by omega) w)
  have U3 := Aside0.mk (show ∀ w, Calls Try.prog 33 #[.int .i64 a3, .int .i64 (1 + H)] w fun e w' => e = .returned (.int .i64 s) ∧ Drawn0 w w' from fun w => hs ▸ up_calls a3 (1 + H) (by omega) (by omega) w)
  clear hW hH ht hs
  have s0 : IntKind.i64.wrap (1 + W) = 1 + W := IntWalk.i64_in _ (by omega)
  have s1 : IntKind.i64.wrap (1 + H) = 1 + H := IntWalk.i64_in _ (by omega)
  have hne : w.heap.size + 1 + 1 ≠ w.heap.size := by omega
  go_enter Try.func30, Try.ntmps30
  go_wp2_with fail
  go_region_held3 (fun w' => w'.cell? ⟨w.heap.size, 0, none⟩ = some (.int .i64 a0) ∧ w'.cell? ⟨w.heap.size, 1, none⟩ = some (.int .i64 a1))
    (first | go_keep | skip)
    (first | (go_at_call 33; (with_reducible refine (U0.out _).mono ?_); rintro e w3 ⟨rfl, ⟨n3, rfl⟩⟩) | (go_at_call 33; (with_reducible refine (U1.out _).mono ?_); rintro e w3 ⟨rfl, ⟨n3, rfl⟩⟩))
  all_goals refine gen_world (P := TopoAt w a0 a1 a2 a3 W H) (by first | with_reducible exact topoAt_1 _ _ _ _ _ _ _ _ | with_reducible exact topoAt_2 _ _ _ _ _ _ _ _ _ | with_reducible exact topoAt_3 _ _ _ _ _ _ _ _) ?_
  all_goals rintro w1 ⟨B0, B1, B2, HB⟩
  all_goals have c0 := blk_cell B0 2; have c1 := blk_cell B0 3; have d0 := blk_cell B2 0; have d1 := blk_cell B2 1; have d2 := blk_cell B2 2; have d3 := blk_cell B2 3; have d4 := blk_cell B2 4; have e0 := blk_cell B1 0; have e1 := blk_cell B1 1; have e2 := blk_cell B1 2; have e3 := blk_cell B1 3; have e4 := blk_cell B1 4
  all_goals simp at c0 c1 d0 d1 d2 d3 d4 e0 e1 e2 e3 e4
  all_goals have f1 := blk_frozen B1; have f2 := blk_frozen B2
  all_goals go_wp2_with fail
  all_goals refine (U2.out _).mono ?_; rintro e w4 ⟨rfl, ⟨n4, rfl⟩⟩
  all_goals go_wp2_with fail
  all_goals refine (U3.out _).mono ?_; rintro e w5 ⟨rfl, ⟨n5, rfl⟩⟩
  all_goals go_wp2
  all_goals refine bodyPost_ret (v := .agg #[.int .u8 2, .int .i64 (1 + W), .int .i64 (1 + H), .int .u8 0, .int .i64 0]) (by simp [results, Try.results30, go_sem, e0, e1, e2, e3, e4]) rfl ⟨rfl, ?_⟩
  all_goals repeat (with_reducible first | exact HB | apply below_alloc | apply pw_below_drewN | refine below_set ?_ (by omega))

theorem topo_walk (a0 a1 a2 a3 : Int) (w : World) (r1 r2 r3 r4 r5 : Int) (h : topoT a0 a1 a2 a3 = (r1, r2, r3, r4, r5)) :
    Calls Try.prog 30 #[.agg #[.int .i64 a0, .int .i64 a1, .int .i64 a2, .int .i64 a3]] w fun e w' => e = .returned (.agg #[.int .u8 r1, .int .i64 r2, .int .i64 r3, .int .u8 r4, .int .i64 r5]) ∧ Below w.heap.size w w' := by
  have hT : a2 % 3 = 0 ∨ a2 % 3 = 1 ∨ a2 % 3 = 2 := by omega
  unfold topoT at h
  rcases hT with hT | hT | hT <;> rw [hT] at h
  · simp only [ne_eq, not_true, false_and, if_false, Prod.mk.injEq] at h
    obtain ⟨rfl, rfl, rfl, rfl, rfl⟩ := h
    exact topo_w0 a0 a1 a2 a3 _ _ _ w rfl rfl hT rfl
  · rw [if_neg (show ¬ (1 : Int) = 2 by omega)] at h
    by_cases hs : 0 < a3 % (1 + a0 % 12)
    · rw [if_pos ⟨by omega, hs⟩] at h
      simp only [Prod.mk.injEq] at h
      obtain ⟨rfl, rfl, rfl, rfl, rfl⟩ := h
      exact topo_w1y a0 a1 a2 a3 _ _ _ w rfl rfl hT rfl (decide_eq_true hs)
    · rw [if_neg (fun h => hs h.2)] at h
      simp only [Prod.mk.injEq] at h
      obtain ⟨rfl, rfl, rfl, rfl, rfl⟩ := h
      exact topo_w1n a0 a1 a2 a3 _ _ _ w rfl rfl hT rfl (decide_eq_false hs)
  · rw [if_pos (show (2 : Int) = 2 from rfl)] at h
    by_cases hs : 0 < a3 % (1 + a1 % 12)
    · rw [if_pos ⟨by omega, hs⟩] at h
      simp only [Prod.mk.injEq] at h
      obtain ⟨rfl, rfl, rfl, rfl, rfl⟩ := h
      exact topo_w2y a0 a1 a2 a3 _ _ _ w rfl rfl hT rfl (decide_eq_true hs)
    · rw [if_neg (fun h => hs h.2)] at h
      simp only [Prod.mk.injEq] at h
      obtain ⟨rfl, rfl, rfl, rfl, rfl⟩ := h
      exact topo_w2n a0 a1 a2 a3 _ _ _ w rfl rfl hT rfl (decide_eq_false hs)

theorem vivariumlaw17_Torus_topo.calls (a0 a1 a2 a3 : Int) (r1 r2 r3 r4 r5 : Int) (w : World) (h : vivariumlaw17_Torus_topo.f a0 a1 a2 a3 = some (r1, r2, r3, r4, r5)) :
    Calls Try.prog 30 #[.agg #[.int .i64 a0, .int .i64 a1, .int .i64 a2, .int .i64 a3]] w fun e w' => e = .returned (.agg #[.int .u8 r1, .int .i64 r2, .int .i64 r3, .int .u8 r4, .int .i64 r5]) ∧ Below w.heap.size w w' := topo_walk a0 a1 a2 a3 w r1 r2 r3 r4 r5 (Option.some.inj h)
end Go.Proofs.Ytomogkhdfaiekaa.PLin
