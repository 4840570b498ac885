/-
  fold.Cell of one place: fold.of's walk with one place, and Cell's; in closed form but for the grid's own cell.
-/
import Derived.Test.YtomogkhdfaiekaaHTimes
import Derived.Test.YtomogkhdfaiekaaHFold
import Derived.Test.YtomogkhdfaiekaaPLinx65
namespace Go.Proofs.Ytomogkhdfaiekaa.PLin
open Go.Proofs.Ytomogkhdfaiekaa.HW Go.Proofs.Ytomogkhdfaiekaa.HSet Go.RowKit Go.Proofs.YtomogkhdfaiekaaW.PrintWords Go.Proofs.YtomogkhdfaiekaaW.PrintLast Go.Proofs.YtomogkhdfaiekaaW.PrintMore
set_option linter.unusedVariables false
set_option linter.unusedSimpArgs false

theorem near_fold (x y : Int) : fold_near.f x y = some (nearP ⟨x, y⟩) := by
  unfold fold_near.f mx mn nearP
  have e : (nearN x && nearN y) = decide (-1099511627776 ≤ x ∧ x ≤ 1099511627776 ∧ -1099511627776 ≤ y ∧ y ≤ 1099511627776) := by
    rw [Bool.eq_iff_iff, Bool.and_eq_true, nearN_iff, nearN_iff, decide_eq_true_eq]; omega
  show _ = some (nearN x && nearN y)
  rw [e]
  by_cases c : (if x < y then y else x) ≤ 1099511627776
  · rw [if_pos c, Option.some.injEq, decide_eq_decide]
    split at c <;> split <;> omega
  · rw [if_neg c, Option.some.injEq, eq_comm, decide_eq_false_iff_not]
    split at c <;> omega

theorem w64 {a : Int} (h1 : -9223372036854775808 ≤ a) (h2 : a ≤ 9223372036854775807) : wrap64 a = a := by unfold wrap64; omega

theorem home_some (k : Nat) {K W H T S : Int} (hc : checkC K W H T S = 0) : topo_Home.f k K W H T S = some (-(W / 2), -(H / 2), W, H, 0) := by
  have hb : (0 ≤ W ∧ W ≤ 65536) ∧ 0 ≤ H ∧ H ≤ 65536 := by
    unfold checkC at hc
    split at hc
    · omega
    · split at hc
      · omega
      · omega
  unfold topo_Home.f topo_Check.f
  rw [hc, Option.bind_some, if_pos rfl, Int.tdiv_eq_ediv_of_nonneg hb.1.1, Int.tdiv_eq_ediv_of_nonneg hb.2.1]
  rw [w64 (a := W / 2) (by omega) (by omega), w64 (a := H / 2) (by omega) (by omega), w64 (by omega) (by omega), w64 (by omega) (by omega)]

abbrev GBox (w : World) (g : Nat) (K W H T S L M : Int) : Prop := w.heap[g]? = some (.cells #[.int .u8 K, .int .i64 W, .int .i64 H, .int .u8 T, .int .i64 S, .int .i64 L, .int .i64 M] 113 (0, 0))
abbrev TBox (w : World) (g : Nat) (K W H T S : Int) : Prop := w.heap[g]? = some (.cells #[.int .u8 K, .int .i64 W, .int .i64 H, .int .u8 T, .int .i64 S] 42 (0, 0))

set_option maxHeartbeats 1000000 in
set_option maxRecDepth 100000 in
theorem of_bad (K W H T S : Int) (A : Option Addr) (n c : Nat) (e0 : Int) (w : World) (hc : checkC K W H T S = e0) (he : e0 ≠ 0) :
    Calls Try.prog 75 #[.agg #[.int .u8 K, .int .i64 W, .int .i64 H, .int .u8 T, .int .i64 S], .slice A n c] w fun e w' => e = .returned (.tuple #[.agg #[.int .u8 0, .int .i64 0, .int .i64 0, .int .u8 0, .int .i64 0, .int .i64 0, .int .i64 0], .int .i64 9]) ∧ Below w.heap.size w w' := by
  have HC := Aside0.mk hc; clear hc
  have hb : (e0 != 0) = true := bne_iff_ne.2 he
  go_enter Try.func75, Try.ntmps75
  go_wp2_with fail
  refine (topo_Check.calls 8 _ _ _ _ _ _ _ (show topo_Check.f 8 K W H T S = some e0 from congrArg some HC.out)).mono ?_
  rintro e w1 ⟨rfl, hb1⟩
  obtain ⟨hB1, hz1, B0, B1⟩ := alloc2_below hb1
  have HB := Aside0.mk hB1
  clear hb1 hB1 B0
  have c0 := blk_cell B1 0; have c1 := blk_cell B1 1; have c2 := blk_cell B1 2; have c3 := blk_cell B1 3; have c4 := blk_cell B1 4; have c5 := blk_cell B1 5; have c6 := blk_cell B1 6
  simp at c0 c1 c2 c3 c4 c5 c6
  have f := blk_frozen B1
  go_wp2
  refine bodyPost_ret (v := .tuple #[.agg #[.int .u8 0, .int .i64 0, .int .i64 0, .int .u8 0, .int .i64 0, .int .i64 0, .int .i64 0], .int .i64 9]) (by simp [results, Try.results75, go_sem, c0, c1, c2, c3, c4, c5, c6]) rfl ⟨rfl, ?_⟩
  repeat (with_reducible first | exact HB.out | apply below_alloc | apply pw_below_drewN | refine below_set ?_ (by omega))

/-- What fold.of answers of one place. -/
def ofV (K W H T S : Int) : Bool → Value
  | true => .tuple #[.agg #[.int .u8 K, .int .i64 W, .int .i64 H, .int .u8 T, .int .i64 S, .int .i64 (-(W / 2)), .int .i64 (-(H / 2))], .int .i64 0]
  | false => .tuple #[.agg #[.int .u8 0, .int .i64 0, .int .i64 0, .int .u8 0, .int .i64 0, .int .i64 0, .int .i64 0], .int .i64 5]

set_option maxHeartbeats 2000000 in
set_option maxRecDepth 100000 in
theorem of_good (K W H T S : Int) (ad : Addr) (c : Nat) (p : S25) (r : Bool) (w : World) (hc : checkC K W H T S = 0) (hr : Kd.C k25 w (some ad) 1 [p]) (hp : nearP p = r) :
    Calls Try.prog 75 #[.agg #[.int .u8 K, .int .i64 W, .int .i64 H, .int .u8 T, .int .i64 S], .slice (some ad) 1 c] w fun e w' => e = .returned (ofV K W H T S r) ∧ Below w.heap.size w w' := by
  have HC := Aside0.mk hc; clear hc
  have HP := Aside0.mk hp; clear hp
  have HR := Aside0.mk hr; clear hr
  go_enter Try.func75, Try.ntmps75
  go_wp2_with fail
  refine (topo_Check.calls 8 _ _ _ _ _ _ _ (show topo_Check.f 8 K W H T S = some 0 from congrArg some HC.out)).mono ?_
  rintro e w1 ⟨rfl, hb1⟩
  obtain ⟨hB1, hz1, B0, B1⟩ := alloc2_below hb1
  have HB1 := Aside0.mk hB1; have HT1 := Aside0.mk B0; have HG1 := Aside0.mk B1
  clear hb1 hB1 B0 B1
  go_wp2
  go_loopw [16] (fun i wr => ∃ k : Nat, k ≤ 1 ∧ i = .int .i64 k ∧ (k = 1 → r = true) ∧ TBox wr w.heap.size K W H T S ∧ GBox wr (w.heap.size + 1) 0 0 0 0 0 0 0 ∧ Below w.heap.size w wr) (fun i _ => 1 - (intOf i).toNat)
  case atStart => exact ⟨0, by omega, rfl, by omega, HT1.out, HG1.out, HB1.out⟩
  case round =>
    clear HT1 HG1 HB1 hz1
    obtain ⟨k, hk, rfl, hkr, ht, hg, hB⟩ := hrel
    have HT := Aside0.mk ht; have HG := Aside0.mk hg; have HB := Aside0.mk hB; have HK := Aside0.mk hkr
    clear ht hg hB hkr
    obtain ⟨wo, rfl⟩ : ∃ wo : World, wo = wr := ⟨_, rfl⟩
    have hzg := blk_lt HG.out
    by_cases hlt : k < 1
    · obtain ⟨ad', hA, e0, e1⟩ := at_T25 HR.out (k : Int) (by omega) (by omega)
      obtain rfl := Option.some.inj hA
      rw [show rd_T25 [p] (k : Int) = p from by obtain rfl : k = 0 := by omega
                                                rfl] at e0 e1
      rw [Int.toNat_natCast] at e0 e1
      have d0 := pw_cell_below HB.out e0
      have d1 := pw_cell_below HB.out e1
      clear e0 e1 hA
      have g := blk_frozen HG.out
      have q0 := blk_cell HG.out 0; have q1 := blk_cell HG.out 1; have q2 := blk_cell HG.out 2; have q3 := blk_cell HG.out 3; have q4 := blk_cell HG.out 4; have q5 := blk_cell HG.out 5; have q6 := blk_cell HG.out 6
      simp at q0 q1 q2 q3 q4 q5 q6
      go_wp2_with fail
      refine (fold_near.calls _ _ r _ (by rw [near_fold]; exact congrArg some HP.out)).mono ?_
      rintro e w2 ⟨rfl, hb2⟩
      obtain ⟨hB2, hz2, _⟩ := alloc1_below hb2
      have HB2 := Aside0.mk (below_then HB.out (show w.heap.size ≤ wo.heap.size by omega) hB2)
      have HT2 := Aside0.mk (blk_below HT.out hB2); have HG2 := Aside0.mk (blk_below HG.out hB2)
      clear hb2 hB2 HT HG HB d0 d1 g q0 q1 q2 q3 q4 q5 q6
      have g := blk_frozen HG2.out
      have q0 := blk_cell HG2.out 0; have q1 := blk_cell HG2.out 1; have q2 := blk_cell HG2.out 2; have q3 := blk_cell HG2.out 3; have q4 := blk_cell HG2.out 4; have q5 := blk_cell HG2.out 5; have q6 := blk_cell HG2.out 6
      simp at q0 q1 q2 q3 q4 q5 q6
      cases r with
      | true =>
        go_wp2
        go_roundw
        case rel => exact ⟨k + 1, by omega, by go_num, fun _ => by trivial, HT2.out, HG2.out, HB2.out⟩
        case measure => simp [intOf]; omega
      | false =>
        go_wp2
        refine bodyPost_ret (v := .tuple #[.agg #[.int .u8 0, .int .i64 0, .int .i64 0, .int .u8 0, .int .i64 0, .int .i64 0, .int .i64 0], .int .i64 5]) (by simp [results, Try.results75, go_sem, q0, q1, q2, q3, q4, q5, q6]) rfl ⟨rfl, ?_⟩
        repeat (with_reducible first | exact HB2.out | apply below_alloc | apply pw_below_drewN | refine below_set ?_ (by omega))
    · obtain rfl := HK.out (by omega)
      have t0 := blk_cell HT.out 0; have t1 := blk_cell HT.out 1; have t2 := blk_cell HT.out 2; have t3 := blk_cell HT.out 3; have t4 := blk_cell HT.out 4
      simp at t0 t1 t2 t3 t4
      go_wp2_with fail
      refine (topo_Home.calls 8 _ _ _ _ _ _ _ _ _ _ _ (home_some 8 HC.out)).mono ?_
      rintro e w2 ⟨rfl, hb2⟩
      have hz2 := hb2.size
      have hz3 : w.heap.size + 1 < w2.heap.size := by omega
      have hz4 : w.heap.size < w2.heap.size := by omega
      have HB2 := Aside0.mk (below_then HB.out (show w.heap.size ≤ wo.heap.size by omega) hb2)
      have HT2 := Aside0.mk (blk_below HT.out hb2); have HG2 := Aside0.mk (blk_below HG.out hb2)
      clear hb2 HT HG HB t0 t1 t2 t3 t4
      have t0 := blk_cell HT2.out 0; have t1 := blk_cell HT2.out 1; have t2 := blk_cell HT2.out 2; have t3 := blk_cell HT2.out 3; have t4 := blk_cell HT2.out 4
      have g := blk_frozen HG2.out
      have q0 := blk_cell HG2.out 0; have q1 := blk_cell HG2.out 1; have q2 := blk_cell HG2.out 2; have q3 := blk_cell HG2.out 3; have q4 := blk_cell HG2.out 4; have q5 := blk_cell HG2.out 5; have q6 := blk_cell HG2.out 6
      simp at q0 q1 q2 q3 q4 q5 q6 t0 t1 t2 t3 t4
      go_wp2
      refine bodyPost_ret (v := .tuple #[.agg #[.int .u8 K, .int .i64 W, .int .i64 H, .int .u8 T, .int .i64 S, .int .i64 (-(W / 2)), .int .i64 (-(H / 2))], .int .i64 0]) (by simp [results, Try.results75, go_sem, q0, q1, q2, q3, q4, q5, q6, hz3, hz4]) rfl ⟨rfl, ?_⟩
      repeat (with_reducible first | exact HB2.out | apply below_alloc | apply pw_below_drewN | refine below_set ?_ (by omega))

def fold_Cell.f (k : Nat) (K W H T S x y : Int) : Option (Int × Int × Int) :=
  if checkC K W H T S = 0 then (if nearP ⟨x, y⟩ = true then fold_grid_cell.f K W H T S (-(W / 2)) (-(H / 2)) x y else some (0, 0, 5)) else some (0, 0, 9)

theorem C_one {W : World} {g : Nat} {p : S25} (h : W.heap[g]? = some (.cells #[.int .i64 p.f0, .int .i64 p.f1] 25 (0, 0))) : Kd.C k25 W (some ⟨g, 0, none⟩) 1 [p] := by
  refine ⟨by simp, by simp, fun _ => ⟨_, rfl, fun j q hq => ?_⟩⟩
  match j, hq with
  | 0, hq =>
    obtain rfl := Option.some.inj hq
    refine ⟨[.int .i64 p.f0, .int .i64 p.f1], rfl, k25_mk W p, fun k u hu => ?_⟩
    match k, hu with
    | 0, hu => cases hu; exact (blk_cell h 0).trans rfl
    | 1, hu => cases hu; exact (blk_cell h 1).trans rfl

theorem alloc_at {w : World} {n : Nat} (h : w.heap.size = n) (o : Obj) : (w.alloc o).heap[n]? = some o := h ▸ alloc_new w o
theorem size_at {w : World} {n : Nat} (h : w.heap.size = n) (o : Obj) : (w.alloc o).heap.size = n + 1 := by rw [size_alloc, h]
set_option maxHeartbeats 1000000 in
set_option maxRecDepth 100000 in
theorem cell_bad (K W H T S x y : Int) (e0 : Int) (w : World) (h0 : e0 ≠ 0) (hof : ∀ (ad : Addr) (c : Nat) (w : World), Kd.C k25 w (some ad) 1 [⟨x, y⟩] → Calls Try.prog 75 #[.agg #[.int .u8 K, .int .i64 W, .int .i64 H, .int .u8 T, .int .i64 S], .slice (some ad) 1 c] w fun e w' => e = .returned (.tuple #[.agg #[.int .u8 0, .int .i64 0, .int .i64 0, .int .u8 0, .int .i64 0, .int .i64 0, .int .i64 0], .int .i64 e0]) ∧ Below w.heap.size w w') :
    Calls Try.prog 67 #[.agg #[.int .u8 K, .int .i64 W, .int .i64 H, .int .u8 T, .int .i64 S], .agg #[.int .i64 x, .int .i64 y]] w fun e w' => e = .returned (.tuple #[.agg #[.int .i64 0, .int .i64 0], .int .i64 e0]) ∧ Below w.heap.size w w' := by
  have HO := Aside0.mk hof; clear hof
  have hb : (e0 != 0) = true := bne_iff_ne.2 h0
  go_enter Try.func67, Try.ntmps67
  go_wp2_with fail
  refine (HO.out _ _ _ (C_one (p := ⟨x, y⟩) (alloc_at (size_at (size_at (size_alloc _ _) _) _) _))).mono ?_
  rintro e w1 ⟨rfl, hb1⟩
  obtain ⟨hB, hz, B0, B1, B2, B3⟩ := alloc4_below hb1
  have HB := Aside0.mk hB
  have q0 := blk_cell B2 0; have q1 := blk_cell B2 1
  simp at q0 q1
  have f := blk_frozen B2
  have hz1 : w.heap.size + 1 + 1 < w1.heap.size := by omega
  clear hb1 hB B0 B1 B3 B2
  go_wp2
  refine bodyPost_ret (v := .tuple #[.agg #[.int .i64 0, .int .i64 0], .int .i64 e0]) (by simp [results, Try.results67, go_sem, q0, q1, hz1]) rfl ⟨rfl, ?_⟩
  repeat (with_reducible first | exact HB.out | apply below_alloc | apply pw_below_drewN | refine below_set ?_ (by omega))

set_option maxHeartbeats 1000000 in
set_option maxRecDepth 100000 in
theorem cell_good (K W H T S x y r1 r2 r3 : Int) (w : World) (hc : checkC K W H T S = 0) (hn : nearP ⟨x, y⟩ = true) (h : fold_grid_cell.f K W H T S (-(W / 2)) (-(H / 2)) x y = some (r1, r2, r3)) :
    Calls Try.prog 67 #[.agg #[.int .u8 K, .int .i64 W, .int .i64 H, .int .u8 T, .int .i64 S], .agg #[.int .i64 x, .int .i64 y]] w fun e w' => e = .returned (.tuple #[.agg #[.int .i64 r1, .int .i64 r2], .int .i64 r3]) ∧ Below w.heap.size w w' := by
  have HC := Aside0.mk hc; have HN := Aside0.mk hn; have HH := Aside0.mk h; clear hc hn h
  go_enter Try.func67, Try.ntmps67
  go_wp2_with fail
  refine (of_good K W H T S _ _ ⟨x, y⟩ true _ HC.out (C_one (p := ⟨x, y⟩) (alloc_at (size_at (size_at (size_alloc _ _) _) _) _)) HN.out).mono ?_
  rintro e w1 ⟨rfl, hb1⟩
  obtain ⟨hB, hz, B0, B1, B2, B3⟩ := alloc4_below hb1
  have HB := Aside0.mk hB; have HB2 := Aside0.mk B2
  have p0 := blk_cell B1 0; have p1 := blk_cell B1 1
  simp at p0 p1
  have hz1 : w.heap.size + 1 + 1 < w1.heap.size := by omega
  have hz2 : w.heap.size + 1 < w1.heap.size := by omega
  clear hb1 hB B0 B1 B3 B2
  unfold ofV
  go_wp2_with fail
  refine (fold_grid_cell.calls _ _ _ _ _ _ _ _ _ _ _ _ _ HH.out).mono ?_
  rintro e w2 ⟨rfl, hb2⟩
  obtain ⟨hB, hz, B0⟩ := alloc1_below hb2
  have HB' := Aside0.mk (below_then HB.out (by omega) hB)
  have B2 := blk_below HB2.out hB
  have q0 := blk_cell B2 0; have q1 := blk_cell B2 1
  simp at q0 q1
  have f := blk_frozen B2
  clear hb2 hB B0 B2 p0 p1
  go_wp2
  refine bodyPost_ret (v := .tuple #[.agg #[.int .i64 r1, .int .i64 r2], .int .i64 r3]) (by simp [results, Try.results67, go_sem, q0, q1]) rfl ⟨rfl, ?_⟩
  repeat (with_reducible first | exact HB'.out | apply below_alloc | apply pw_below_drewN | refine below_set ?_ (by omega))

theorem fold_Cell.calls (k : Nat) (K W H T S x y r1 r2 r3 : Int) (w : World) (h : fold_Cell.f k K W H T S x y = some (r1, r2, r3)) :
    Calls Try.prog 67 #[.agg #[.int .u8 K, .int .i64 W, .int .i64 H, .int .u8 T, .int .i64 S], .agg #[.int .i64 x, .int .i64 y]] w fun e w' => e = .returned (.tuple #[.agg #[.int .i64 r1, .int .i64 r2], .int .i64 r3]) ∧ Below w.heap.size w w' := by
  unfold fold_Cell.f at h
  by_cases hc : checkC K W H T S = 0
  · rw [if_pos hc] at h
    by_cases hn : nearP ⟨x, y⟩ = true
    · rw [if_pos hn] at h
      exact cell_good K W H T S x y r1 r2 r3 w hc hn h
    · rw [if_neg hn] at h
      simp only [Option.some.injEq, Prod.mk.injEq] at h
      obtain ⟨rfl, rfl, rfl⟩ := h
      exact cell_bad K W H T S x y 5 w (by omega) fun ad c w hr => of_good K W H T S ad c _ false w hc hr (Bool.eq_false_iff.2 hn)
  · rw [if_neg hc] at h
    simp only [Option.some.injEq, Prod.mk.injEq] at h
    obtain ⟨rfl, rfl, rfl⟩ := h
    exact cell_bad K W H T S x y 9 w (by omega) fun ad c w _ => of_bad K W H T S (some ad) 1 c _ w rfl hc
end Go.Proofs.Ytomogkhdfaiekaa.PLin
