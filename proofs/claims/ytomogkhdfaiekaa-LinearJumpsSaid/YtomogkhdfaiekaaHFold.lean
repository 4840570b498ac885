/-
  fold and topo: the way of a torus, its cell, and whether a place is a cell: their walks.
-/
import Derived.Test.YtomogkhdfaiekaaPLinx0
import Derived.Test.YtomogkhdfaiekaaHTopo
import Derived.Test.YtomogkhdfaiekaaPLinx65
import Derived.Laws.EntriesVeiled
import Derived.Deep.RegionHeld3
import Derived.Test.YtomogkhdfaiekaaHKeys
namespace Go.Proofs.Ytomogkhdfaiekaa.PLin
open Go.Proofs.Ytomogkhdfaiekaa.HW Go.RowKit Go.Proofs.YtomogkhdfaiekaaW.PrintWords Go.Proofs.YtomogkhdfaiekaaW.PrintLast Go.Proofs.YtomogkhdfaiekaaW.PrintMore
set_option linter.unusedVariables false
set_option linter.unusedSimpArgs false

theorem fold_way.calls2 (w : World) :
    Calls Try.prog 92 #[.int .u8 2] w fun e w' => e = .returned (.func (.func 100) #[] #[]) ∧ Below w.heap.size w w' := by
  go_enter Try.func92, Try.ntmps92
  go_wp2
  go_ret
  exact ⟨rfl, by repeat (first | exact Below.refl _ _ | apply below_alloc)⟩

def fold_grid_cell.f (a0_0 a0_1 a0_2 a0_3 a0_4 a0_5 a0_6 a1_0 a1_1 : Int) : Option (Int × Int × Int) :=
  if a0_0 = 2 then
    (fold_grid_home.f a0_0 a0_1 a0_2 a0_3 a0_4 a0_5 a0_6 a1_0 a1_1).bind fun h =>
    (fold_grid_torus.f a0_0 a0_1 a0_2 a0_3 a0_4 a0_5 a0_6 h.1 h.2).bind fun t =>
    (fold_grid_place.f a0_0 a0_1 a0_2 a0_3 a0_4 a0_5 a0_6 t.1 t.2.1).bind fun p => some (p.1, p.2, 0)
  else none

set_option maxHeartbeats 1000000 in
theorem fold_grid_cell.calls (a0_0 a0_1 a0_2 a0_3 a0_4 a0_5 a0_6 a1_0 a1_1 : Int) (r1 r2 r3 : Int) (w : World) (h : fold_grid_cell.f a0_0 a0_1 a0_2 a0_3 a0_4 a0_5 a0_6 a1_0 a1_1 = some (r1, r2, r3)) :
    Calls Try.prog 76 #[.agg #[.int .u8 a0_0, .int .i64 a0_1, .int .i64 a0_2, .int .u8 a0_3, .int .i64 a0_4, .int .i64 a0_5, .int .i64 a0_6], .agg #[.int .i64 a1_0, .int .i64 a1_1]] w fun e w' => e = .returned (.tuple #[.agg #[.int .i64 r1, .int .i64 r2], .int .i64 r3]) ∧ Below w.heap.size w w' := by
  unfold fold_grid_cell.f at h
  by_cases h2 : a0_0 = 2
  case neg => rw [if_neg h2] at h; cases h
  subst h2
  rw [if_pos rfl] at h
  obtain ⟨⟨u, v⟩, hh, h⟩ := Option.bind_eq_some_iff.mp h
  obtain ⟨⟨x, y, b⟩, ht, h⟩ := Option.bind_eq_some_iff.mp h
  obtain ⟨⟨p, q⟩, hp, h⟩ := Option.bind_eq_some_iff.mp h
  simp only [Option.some.injEq, Prod.mk.injEq] at h
  obtain ⟨rfl, rfl, rfl⟩ := h
  have Hh := Aside0.mk hh; clear hh
  have Ht := Aside0.mk ht; clear ht
  have Hp := Aside0.mk hp; clear hp
  clear h
  go_enter Try.func76, Try.ntmps76
  go_wp2_with fail
  refine (fold_grid_home.calls _ _ _ _ _ _ _ _ _ _ _ _ Hh.out).mono ?_
  rintro e w1 ⟨rfl, hb1⟩
  obtain ⟨hB, hz1, B0, B1, B2⟩ := alloc3_below hb1; clear hb1
  have c0 := fun i => blk_cell B0 i
  go_wp2_with fail
  refine (fold_grid_glued.calls _ _ _ _ _ _ _ true _ rfl).mono ?_
  rintro e w2 ⟨rfl, hb2⟩
  clear c0
  have hz2 := hb2.size
  replace B0 := blk_below B0 hb2; replace B1 := blk_below B1 hb2; replace B2 := blk_below B2 hb2; replace hB := below_then hB (by omega) hb2; clear hb2
  have c0 := blk_cell B0 0; have c1 := blk_cell B0 1; have c2 := blk_cell B0 2; have c3 := blk_cell B0 3; have c4 := blk_cell B0 4; have c5 := blk_cell B0 5; have c6 := blk_cell B0 6
  simp at c0 c1 c2 c3 c4 c5 c6
  have hzz : w.heap.size < w2.heap.size := by omega
  go_wp2_with fail
  go_region_held3 (fun w' => w'.cell? ⟨w.heap.size, 0, none⟩ = some (.int .u8 2) ∧ w'.cell? ⟨w.heap.size, 1, none⟩ = some (.int .i64 a0_1) ∧ w'.cell? ⟨w.heap.size, 2, none⟩ = some (.int .i64 a0_2) ∧ w'.cell? ⟨w.heap.size, 3, none⟩ = some (.int .u8 a0_3) ∧ w'.cell? ⟨w.heap.size, 4, none⟩ = some (.int .i64 a0_4) ∧ w'.cell? ⟨w.heap.size, 5, none⟩ = some (.int .i64 a0_5) ∧ w'.cell? ⟨w.heap.size, 6, none⟩ = some (.int .i64 a0_6))
    (first | go_keep | (have hq := (bcell hb3).1; go_split_ands; (refine ⟨?_, ?_, ?_, ?_, ?_, ?_, ?_⟩) <;> exact (hq _ _ hzz).trans (by assumption)) | (have hq := (bcell hb4).1; go_split_ands; (refine ⟨?_, ?_, ?_, ?_, ?_, ?_, ?_⟩) <;> exact (hq _ _ hz3).trans (by assumption)))
    (first | (go_at_call 92; refine (fold_way.calls2 _).mono ?_; rintro e w3 ⟨rfl, hb3⟩; have hz3 : w.heap.size < w3.heap.size := Nat.lt_of_lt_of_le hzz hb3.size) | (go_at_call 100; refine (fold_grid_torus.calls _ _ _ _ _ _ _ _ _ _ _ _ _ Ht.out).mono ?_; rintro e w4 ⟨rfl, hb4⟩; have hz4 : w.heap.size < w4.heap.size := Nat.lt_of_lt_of_le hz3 hb4.size))
  clear c0 c1 c2 c3 c4 c5 c6
  have hz3' := hb3.size; have hz4' := hb4.size
  replace B0 := blk_below (blk_below (w := w2.drew) B0 hb3) hb4
  replace B2 := blk_below (blk_below (w := w2.drew) B2 hb3) hb4
  replace hB := below_then (below_then (below_drew hB) (show w.heap.size ≤ w2.heap.size by omega) hb3) (by omega) hb4
  clear hb3 hb4 hz3' hz4'
  have c0 := blk_cell B0 0; have c1 := blk_cell B0 1; have c2 := blk_cell B0 2; have c3 := blk_cell B0 3; have c4 := blk_cell B0 4; have c5 := blk_cell B0 5; have c6 := blk_cell B0 6
  simp at c0 c1 c2 c3 c4 c5 c6
  go_wp2_with fail
  refine (fold_grid_place.calls _ _ _ _ _ _ _ _ _ _ _ _ Hp.out).mono ?_
  rintro e w5 ⟨rfl, hb5⟩
  clear c0 c1 c2 c3 c4 c5 c6
  replace B2 := blk_below B2 hb5
  replace hB := below_then hB (by omega) hb5
  have hz5 : w.heap.size + 2 < w5.heap.size := blk_lt B2
  clear hb5
  have c0 := blk_cell B2 0; have c1 := blk_cell B2 1
  simp at c0 c1
  have f0 := blk_frozen B2 0; have f1 := blk_frozen B2 1
  go_wp2
  refine bodyPost_ret (v := .tuple #[.agg #[.int .i64 p, .int .i64 q], .int .i64 0]) (by simp [results, Try.results76, go_sem, c0, c1]) rfl ⟨rfl, ?_⟩
  exact below_set (below_set hB (by omega)) (by omega)

def topo_Has.f (a0_0 a0_1 a0_2 a0_3 a0_4 a1_0 a1_1 : Int) : Option (Bool × Int) :=
  (topo_Home.f 10 a0_0 a0_1 a0_2 a0_3 a0_4).bind fun h =>
  if h.2.2.2.2 = 0 then
    if mx a1_0 a1_1 > 1099511627776 then some (false, 5)
    else if mn a1_0 a1_1 < -1099511627776 then some (false, 5)
    else (topo_Has_1.f a1_0 h.1 h.2.2.1).bind fun b => if b = true then (topo_Has_1.f a1_1 h.2.1 h.2.2.2.1).bind fun c => some (c, 0) else some (false, 0)
  else some (false, h.2.2.2.2)

attribute [local go_sem] max2_int min2_int max_two min_two max_three min_three max_four min_four   -- for this text's walks alone
set_option maxHeartbeats 1000000 in
theorem topo_Has.calls (a0_0 a0_1 a0_2 a0_3 a0_4 a1_0 a1_1 : Int) (r1 : Bool) (r2 : Int) (w : World) (h : topo_Has.f a0_0 a0_1 a0_2 a0_3 a0_4 a1_0 a1_1 = some (r1, r2)) :
    Calls Try.prog 66 #[.agg #[.int .u8 a0_0, .int .i64 a0_1, .int .i64 a0_2, .int .u8 a0_3, .int .i64 a0_4], .agg #[.int .i64 a1_0, .int .i64 a1_1]] w fun e w' => e = .returned (.tuple #[.bool r1, .int .i64 r2]) ∧ Below w.heap.size w w' := by
  unfold topo_Has.f at h
  obtain ⟨⟨x, y, W, H, e0⟩, hh, h⟩ := Option.bind_eq_some_iff.mp h
  have Hh := Aside0.mk hh; clear hh
  dsimp only at h
  have h' := Aside0.mk h; clear h
  go_enter Try.func66, Try.ntmps66
  go_wp2_with fail
  refine (topo_Home.calls _ _ _ _ _ _ _ _ _ _ _ _ Hh.out).mono ?_
  rintro e w1 ⟨rfl, hb1⟩
  obtain ⟨hB, hz1, B0, B1⟩ := alloc2_below hb1; clear hb1
  have h := h'.out; clear h'
  have hz2 : w.heap.size + 1 < w1.heap.size := by omega
  have c0 := blk_cell B1 0; have c1 := blk_cell B1 1
  simp at c0 c1
  by_cases h0 : e0 = 0
  case neg =>
    rw [if_neg h0] at h
    simp only [Option.some.injEq, Prod.mk.injEq] at h
    obtain ⟨rfl, rfl⟩ := h
    have h0' : (e0 != 0) = true := bne_iff_ne.2 h0
    clear h0
    go_wp2
    go_ret2
    exact ⟨rfl, below_alloc hB _⟩
  subst h0
  rw [if_pos rfl] at h
  obtain ⟨m, hm⟩ : ∃ m, mx a1_0 a1_1 = m := ⟨_, rfl⟩
  have hm' : (if a1_0 < a1_1 then a1_1 else a1_0) = m := hm
  obtain ⟨n, hn⟩ : ∃ n, mn a1_0 a1_1 = n := ⟨_, rfl⟩
  have hn' : (if a1_1 < a1_0 then a1_1 else a1_0) = n := hn
  rw [hm, hn] at h
  clear hm hn
  by_cases h1 : m > 1099511627776
  case pos =>
    rw [if_pos h1] at h
    simp only [Option.some.injEq, Prod.mk.injEq] at h
    obtain ⟨rfl, rfl⟩ := h
    have h1' : decide (1099511627776 < m) = true := decide_eq_true h1
    clear h1
    go_wp2
    go_ret2
    exact ⟨rfl, below_alloc hB _⟩
  rw [if_neg h1] at h
  have h1' : decide (1099511627776 < m) = false := decide_eq_false h1
  clear h1
  by_cases h2 : n < -1099511627776
  case pos =>
    rw [if_pos h2] at h
    simp only [Option.some.injEq, Prod.mk.injEq] at h
    obtain ⟨rfl, rfl⟩ := h
    have h2' : decide (n < -1099511627776) = true := decide_eq_true h2
    clear h2
    go_wp2
    go_ret2
    exact ⟨rfl, below_alloc hB _⟩
  rw [if_neg h2] at h
  have h2' : decide (n < -1099511627776) = false := decide_eq_false h2
  clear h2
  obtain ⟨b, hb, h⟩ := Option.bind_eq_some_iff.mp h
  have Hb := Aside0.mk hb; clear hb
  cases b with
  | false =>
    simp only [Bool.false_eq_true, if_false, Option.some.injEq, Prod.mk.injEq] at h
    obtain ⟨rfl, rfl⟩ := h
    go_wp2_with fail
    refine (topo_Has_1.calls _ _ _ _ _ Hb.out).mono ?_
    rintro e w2 ⟨rfl, hb2⟩
    go_wp2
    go_ret2
    exact ⟨rfl, below_then (below_alloc hB _) (by simp; omega) hb2.below⟩
  | true =>
    simp only [if_true] at h
    obtain ⟨c, hc, h⟩ := Option.bind_eq_some_iff.mp h
    simp only [Option.some.injEq, Prod.mk.injEq] at h
    obtain ⟨rfl, rfl⟩ := h
    have Hc := Aside0.mk hc; clear hc
    go_wp2_with fail
    refine (topo_Has_1.calls _ _ _ _ _ Hb.out).mono ?_
    rintro e w2 ⟨rfl, hb2⟩
    obtain ⟨⟨nn, rfl⟩⟩ := hb2
    go_wp2_with fail
    refine (topo_Has_1.calls _ _ _ _ _ Hc.out).mono ?_
    rintro e w3 ⟨rfl, hb3⟩
    go_wp2
    go_ret2
    exact ⟨rfl, below_then (pw_below_drewN (below_alloc hB _) _) (by simp; omega) hb3.below⟩
end Go.Proofs.Ytomogkhdfaiekaa.PLin
