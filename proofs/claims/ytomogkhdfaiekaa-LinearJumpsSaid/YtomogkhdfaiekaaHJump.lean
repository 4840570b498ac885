/-
  linear: a set moved, offsets doubled.
  linear: offsets doubled.
  linear: jump.
  linear: what is wrong with a question; Jump.
  linear.Jump: its contract.
-/
import Derived.Test.YtomogkhdfaiekaaHNorm
import Derived.Deep.LoopGhost
section
namespace Go.Proofs.Ytomogkhdfaiekaa.PLin
open Go.Proofs.Ytomogkhdfaiekaa.HW Go.Proofs.Ytomogkhdfaiekaa.HSet Go.RowKit Go.Proofs.YtomogkhdfaiekaaW.PrintWords Go.Proofs.YtomogkhdfaiekaaW.PrintLast Go.Proofs.YtomogkhdfaiekaaW.PrintMore
set_option linter.unusedVariables false
set_option linter.unusedSimpArgs false

/-- A topology's box in memory. -/
abbrev PBox (w : World) (g : Nat) (p : S25) : Prop := w.heap[g]? = some (.cells #[.int .i64 p.f0, .int .i64 p.f1] 25 (0, 0))

theorem pset_far {w : World} {b : Nat} {S : List S25} (h : PSet w b S) {p : Addr} (hp : b ≠ p.block) (u : Value) : PSet (w.setCell p u) b S := h.move (Below.heap_setCell w p u b hp)

theorem movedL_length (W H T S : Int) (D St : List S25) : (movedL W H T S D St).length = D.length * St.length := by
  unfold movedL
  rw [List.length_flatMap]
  simp [List.map_const']

set_option maxHeartbeats 2000000 in
set_option maxRecDepth 100000 in
theorem linear_moved.calls (K W H T S : Int) (hc : topo_Check.f 8 K W H T S = some 0) (hk : K = 2) (hv : TV W H T S) (b : Nat) (St : List S25) (A1 : Option Addr) (c1 : Nat) (D : List S25) (w : World) (hs : PSet w b St) (hr : Kd.C k25 w A1 D.length D) (hc1 : D.length ≤ c1)
    (hD : ∀ p ∈ D, nearP p = true) (hS : ∀ p ∈ St, hasB W H p = true) (hDl : D.length ≤ 1048576) (hSl : St.length ≤ 1048576) :
    Calls Try.prog 68 #[.agg #[.int .u8 K, .int .i64 W, .int .i64 H, .int .u8 T, .int .i64 S], .map (some b), .slice A1 D.length c1] w fun e w' => ∃ b', e = .returned (.map (some b')) ∧ w.heap.size ≤ b' ∧ PSet w' b' (norm (movedL W H T S D St)) ∧ Below w.heap.size w w' := by
  subst hk
  have hlt := hs.lt
  have HS0 := Aside0.mk (show PSet ((w.alloc (.cells #[.int .u8 2, .int .i64 W, .int .i64 H, .int .u8 T, .int .i64 S] 42)).alloc (.map #[] 0)) b St from (hs.alloc _).alloc _)
  have HR := Aside0.mk hr; have HD := Aside0.mk hD; have HS := Aside0.mk hS; have HC := Aside0.mk hc; have HV := Aside0.mk hv
  clear hs hr hD hS hc hv
  have HT0 := Aside0.mk (show TBox ((w.alloc (.cells #[.int .u8 2, .int .i64 W, .int .i64 H, .int .u8 T, .int .i64 S] 42)).alloc (.map #[] 0)) w.heap.size 2 W H T S from blk_alloc (alloc_new _ _) _)
  have HO0 := Aside0.mk (show PSet ((w.alloc (.cells #[.int .u8 2, .int .i64 W, .int .i64 H, .int .u8 T, .int .i64 S] 42)).alloc (.map #[] 0)) (w.heap.size + 1) (norm (movedL W H T S (D.take 0) St)) from by
    have := SetAt.made (P := Try.prog) (K := 25) (okp := okP) (kl := klP) (w.alloc (.cells #[.int .u8 2, .int .i64 W, .int .i64 H, .int .u8 T, .int .i64 S] 42))
    rwa [size_alloc] at this)
  have HB0 := Aside0.mk (below_alloc (below_alloc (Below.refl w.heap.size w) (.cells #[.int .u8 2, .int .i64 W, .int .i64 H, .int .u8 T, .int .i64 S] 42)) (.map #[] 0))
  have hmm := @run_makeMap Try.prog
  go_enter Try.func68, Try.ntmps68
  go_wp2
  go_loopw [16] (fun i wr => ∃ k : Nat, k ≤ D.length ∧ i = .int .i64 k ∧ PSet wr b St ∧ PSet wr (w.heap.size + 1) (norm (movedL W H T S (D.take k) St)) ∧ TBox wr w.heap.size 2 W H T S ∧ Below w.heap.size w wr) (fun i _ => D.length - (intOf i).toNat)
  case atStart => exact ⟨0, Nat.zero_le _, rfl, HS0.out, HO0.out, HT0.out, HB0.out⟩
  case round =>
    clear HB0 HS0 HO0 HT0
    obtain ⟨k, hk, rfl, hs, ho, ht, hB⟩ := hrel
    have HS1 := Aside0.mk hs; clear hs
    have HO := Aside0.mk ho; clear ho
    have HT := Aside0.mk ht; clear ht
    have HB := Aside0.mk hB; clear hB
    have hzr := HO.out.lt
    have hzt := blk_lt HT.out
    obtain ⟨wo, rfl⟩ : ∃ wo : World, wo = wr := ⟨_, rfl⟩
    by_cases hlt2 : k < D.length
    · obtain ⟨ad, hA, d0', d1'⟩ := at_T25 HR.out (k : Int) (by omega) (by omega)
      subst hA
      have d0 := pw_cell_below HB.out d0'
      have d1 := pw_cell_below HB.out d1'
      clear d0' d1'
      rw [Int.toNat_natCast] at d0 d1
      have hpn := Aside0.mk (HD.out _ (rd_mem D k hlt2 k rfl))
      have hts := Aside0.mk (take_succ_rd D k hlt2)
      generalize rd_T25 D (k : Int) = p at *
      have t0 := blk_cell HT.out 0; have t1 := blk_cell HT.out 1; have t2 := blk_cell HT.out 2; have t3 := blk_cell HT.out 3; have t4 := blk_cell HT.out 4
      simp at t0 t1 t2 t3 t4
      go_wp2_with fail
      refine (fold_Cell.calls 10 _ _ _ _ _ _ _ _ _ _ _ (fold_Cell_eq HC.out rfl HV.out hpn.out)).mono ?_
      rintro e w4 ⟨rfl, hb4⟩
      have hch := near_cell HV.out p
      generalize hcell : cellG W H T S p = c at *
      obtain ⟨hb4', hz4, B0⟩ := alloc1_below hb4; clear hb4
      clear d0 d1 t0 t1 t2 t3 t4
      have HS4 := Aside0.mk (HS1.out.below hb4'); have HO4 := Aside0.mk (HO.out.below hb4'); have HT4 := Aside0.mk (blk_below HT.out hb4')
      have HB4 := Aside0.mk (below_then HB.out (by omega) hb4')
      have HG := Aside0.mk B0
      have f0 := blk_frozen B0 0; have f1 := blk_frozen B0 1
      have q0 := blk_cell B0 0; have q1 := blk_cell B0 1
      simp at q0 q1
      clear HS1 HO HT HB B0
      generalize hgw : wo.heap.size = g1 at *
      have hbg : b ≠ g1 := by omega
      have HS5 := Aside0.mk (pset_far (pset_far HS4.out (p := ⟨g1, 0, none⟩) hbg (.int .i64 c.f0)) (p := ⟨g1, 1, none⟩) hbg (.int .i64 c.f1))
      have HO5 := Aside0.mk (pset_far (pset_far HO4.out (p := ⟨g1, 0, none⟩) (Nat.ne_of_lt (by omega)) (.int .i64 c.f0)) (p := ⟨g1, 1, none⟩) (Nat.ne_of_lt (by omega)) (.int .i64 c.f1))
      have HT5 := Aside0.mk (blk_far (blk_far HT4.out (p := ⟨g1, 0, none⟩) (Nat.ne_of_lt (by omega)) (.int .i64 c.f0)) (p := ⟨g1, 1, none⟩) (Nat.ne_of_lt (by omega)) (.int .i64 c.f1))
      have HG5 := Aside0.mk (show PBox _ g1 c from blk_put (blk_put HG.out 0 (.int .i64 c.f0) rfl) 1 (.int .i64 c.f1) rfl)
      have HB5 := Aside0.mk (below_set (below_set HB4.out (show w.heap.size ≤ g1 by omega) (j := 0) (v := .int .i64 c.f0)) (show w.heap.size ≤ g1 by omega) (j := 1) (v := .int .i64 c.f1))
      clear HS4 HO4 HT4 HG HB4
      go_wp2_with (at_range; refine wp_range _ rfl _ 73 rfl 89 C25 Try.underlying73 rfl HS5.out ?_; intro w6 hr6 hg6 hs6)
      go_frame
      clear f0 f1 q0 q1
      have hgl5 := blk_lt HG5.out
      have hol5 := HO5.out.lt
      have HO6 := Aside0.mk (HO5.out.grown hg6 (by simp)); have HT6 := Aside0.mk (blk_grown HT5.out hg6 (by simp)); have HG6 := Aside0.mk (blk_grown HG5.out hg6 (by simp))
      have HB6 := Aside0.mk (HB5.out.grown hg6 HB5.out.size (fun _ e => by cases e))
      have HR6 := Aside0.mk hr6
      have hlt5 := blk_lt HT5.out
      clear HS5 HO5 HT5 HG5 HB5 hg6 hr6
      generalize ((w4.setCell ⟨g1, 0, none⟩ (.int .i64 c.f0)).setCell ⟨g1, 1, none⟩ (.int .i64 c.f1)).heap.size = r at *
      clear hb4'
      have hF := Aside0.mk (show movedL W H T S (D.take (k + 1)) St = movedL W H T S (D.take k) St ++ St.map fun q : S25 => cellG W H T S ⟨q.f0 - c.f0, q.f1 - c.f1⟩ by
        rw [hts.out]; unfold movedL; rw [List.flatMap_append, List.flatMap_singleton, hcell])
      have HO7 := Aside0.mk (show PSet w6 (w.heap.size + 1) (norm (movedL W H T S (D.take k) St ++ ([] : List S25).map fun q : S25 => cellG W H T S ⟨q.f0 - c.f0, q.f1 - c.f1⟩)) by rw [List.map_nil, List.append_nil]; exact HO6.out)
      clear HO6 hs6
      have hne : w.heap.size + 1 ≠ r := Nat.ne_of_lt hol5
      have hnt : w.heap.size ≠ r := Nat.ne_of_lt hlt5
      have hng : g1 ≠ r := Nat.ne_of_lt hgl5
      go_loopg [] St.length (fun n wj => ∃ vs : List S25, vs.length + n = St.length ∧ RangeAt Try.prog 25 okP klP wj b r St vs ∧ PSet wj (w.heap.size + 1) (norm (movedL W H T S (D.take k) St ++ vs.map fun q : S25 => cellG W H T S ⟨q.f0 - c.f0, q.f1 - c.f1⟩)) ∧ TBox wj w.heap.size 2 W H T S ∧ PBox wj g1 c ∧ Below w.heap.size w wj)
      case atStart => exact ⟨[], by simp, HR6.out, HO7.out, HT6.out, HG6.out, HB6.out⟩
      case round =>
        clear HR6 HO7 HT6 HG6 HB6
        obtain ⟨vs, hvs, hrg, ho, ht, hg, hB⟩ := hrel
        obtain ⟨wj, rfl⟩ : ∃ wj : World, wj = wr := ⟨_, rfl⟩
        have HRG := Aside0.mk hrg; have HO := Aside0.mk ho; have HT := Aside0.mk ht; have HG := Aside0.mk hg; have HB := Aside0.mk hB
        clear hrg ho ht hg hB
        have hrb := HRG.out.ne
        have hol := HO.out.lt
        go_wp2_with (first | (at_next; refine wp_next _ rfl _ rfl C25 rfl HRG.out ?_ ?_))
        · intro hperm
          have HS4 := Aside0.mk HRG.out.set
          have HO4 := Aside0.mk (show PSet wj (w.heap.size + 1) (norm (movedL W H T S (D.take (k + 1)) St)) by
            rw [hF.out]
            exact HO.out.perm (norm_perm ((hperm.map _).append_left _)))
          go_wp2
          go_roundw
          case rel => exact ⟨k + 1, by omega, by go_num, HS4.out, HO4.out, HT.out, HB.out⟩
          case measure => simp [intOf]; omega
        · intro q w7 hqS hqv hqk hlen hrg7 hg7 hs7 hen
          have hq' := near_of_has HV.out.w2 HV.out.h2 (HS.out q hqS)
          unfold mkP at hen ⊢
          have HO4 := Aside0.mk (HO.out.grown hg7 (fun e => by injection e with e; exact hne e)); have HT4 := Aside0.mk (blk_grown HT.out hg7 (fun e => by injection e with e; exact hnt e)); have HG4 := Aside0.mk (blk_grown HG.out hg7 (fun e => by injection e with e; exact hng e))
          have HB4 := Aside0.mk (HB.out.grown hg7 HB.out.size (fun _ e => by injection e with e; omega))
          have HRG4 := Aside0.mk hrg7
          clear HO HT HG HB HRG hg7 hrg7
          have t0 := blk_cell HT4.out 0; have t1 := blk_cell HT4.out 1; have t2 := blk_cell HT4.out 2; have t3 := blk_cell HT4.out 3; have t4 := blk_cell HT4.out 4
          have q0 := blk_cell HG4.out 0; have q1 := blk_cell HG4.out 1
          simp at t0 t1 t2 t3 t4 q0 q1
          have ht4 := blk_lt HT4.out; have hg4 := blk_lt HG4.out
          clear hs7
          go_wp2_with fail
          have hfe := fold_Cell_eq HC.out rfl HV.out (p := ⟨q.f0 - c.f0, q.f1 - c.f1⟩) (nearP_of (by dsimp only; omega))
          dsimp only at hfe
          refine (fold_Cell.calls 10 _ _ _ _ _ _ _ _ _ _ _ hfe).mono ?_
          rintro e w8 ⟨rfl, hb8⟩
          have hsh := near_cell HV.out ⟨q.f0 - c.f0, q.f1 - c.f1⟩
          clear t0 t1 t2 t3 t4 q0 q1 hfe
          have hne7 := HRG4.out.lt
          obtain ⟨hb8', hz8, _⟩ := alloc1_below hb8; clear hb8
          have HO8 := Aside0.mk (HO4.out.below hb8'); have HT8 := Aside0.mk (blk_below HT4.out hb8'); have HG8 := Aside0.mk (blk_below HG4.out hb8'); have HRG8 := Aside0.mk (HRG4.out.below hb8')
          have HB8 := Aside0.mk (below_then HB4.out (by omega) hb8')
          have hlen8 : (norm (movedL W H T S (D.take k) St ++ vs.map fun q : S25 => cellG W H T S ⟨q.f0 - c.f0, q.f1 - c.f1⟩)).length < maxLen := by
            have h1 := norm_length (movedL W H T S (D.take k) St ++ vs.map fun q : S25 => cellG W H T S ⟨q.f0 - c.f0, q.f1 - c.f1⟩)
            rw [List.length_append, List.length_map, movedL_length, List.length_take, Nat.min_eq_left hk] at h1
            have h2 : k * St.length ≤ 1048576 * 1048576 := Nat.mul_le_mul (by omega) hSl
            unfold maxLen; omega
          clear HO4 HT4 HG4 HRG4 HB4 hb8' hen
          have hF8 := Aside0.mk (show norm (movedL W H T S (D.take k) St ++ (vs ++ [q]).map fun q : S25 => cellG W H T S ⟨q.f0 - c.f0, q.f1 - c.f1⟩) = tog (norm (movedL W H T S (D.take k) St ++ vs.map fun q : S25 => cellG W H T S ⟨q.f0 - c.f0, q.f1 - c.f1⟩)) (cellG W H T S ⟨q.f0 - c.f0, q.f1 - c.f1⟩) by
            rw [List.map_append, ← List.append_assoc]; exact norm_snoc _ _)
          generalize cellG W H T S ⟨q.f0 - c.f0, q.f1 - c.f1⟩ = s at *
          go_wp2_with fail
          refine (linear_set_turn.calls _ _ s ⟨wf_i64 (by omega) (by omega), wf_i64 (by omega) (by omega)⟩ _ (HO8.out.alloc _) hlen8).mono ?_
          rintro e w9 ⟨rfl, hs9, hg9⟩
          have HO9 := Aside0.mk (hF8.out ▸ hs9)
          have HB9 := Aside0.mk (below_turn (below_alloc HB8.out _) (by rw [size_alloc]; omega) (by omega) hg9)
          have HT9 := Aside0.mk (blk_grown (blk_alloc HT8.out _) hg9 (fun e => by injection e with e; omega))
          have HG9 := Aside0.mk (blk_grown (blk_alloc HG8.out _) hg9 (fun e => by injection e with e; omega))
          have HRG9 := Aside0.mk ((HRG8.out.alloc _).grown hg9 (fun e => by injection e with e; omega) (fun e => by injection e with e; omega))
          clear hs9 hg9 HO8 HT8 HG8 HRG8 HB8 hlen8
          go_wp2
          go_roundg (gk - 1)
          case measure => omega
          case rel => exact ⟨vs ++ [q], by simp; omega, HRG9.out, HO9.out, HT9.out, HG9.out, HB9.out⟩
    · have hkl : D.take k = D := List.take_of_length_le (by omega)
      have HO4 := Aside0.mk (show PSet wo (w.heap.size + 1) (norm (movedL W H T S D St)) by have := HO.out; rwa [hkl] at this)
      clear hkl HO
      go_wp2
      go_ret
      exact ⟨_, rfl, by omega, HO4.out, HB.out⟩
end Go.Proofs.Ytomogkhdfaiekaa.PLin
end

section
namespace Go.Proofs.Ytomogkhdfaiekaa.PLin
open Go.Proofs.Ytomogkhdfaiekaa.HW Go.Proofs.Ytomogkhdfaiekaa.HSet Go.RowKit Go.Proofs.YtomogkhdfaiekaaW.PrintWords Go.Proofs.YtomogkhdfaiekaaW.PrintLast Go.Proofs.YtomogkhdfaiekaaW.PrintMore
set_option linter.unusedVariables false
set_option linter.unusedSimpArgs false

theorem doubledL_length (W H T S : Int) (D : List S25) : (doubledL W H T S D).length = D.length := by unfold doubledL; simp
theorem okF_of_has {W H : Int} (h1 : W ≤ 65536) (h2 : H ≤ 65536) {p : S25} (h : hasB W H p = true) : okF p := by
  have := near_of_has h1 h2 h
  unfold okF; omega

set_option maxHeartbeats 2000000 in
set_option maxRecDepth 100000 in
theorem linear_doubled.calls (W H T S : Int) (hc : topo_Check.f 8 2 W H T S = some 0) (hv : TV W H T S) (A1 : Option Addr) (c1 : Nat) (D : List S25) (w : World) (hr : Kd.C k25 w A1 D.length D) (hc1 : D.length ≤ c1)
    (hD : ∀ p ∈ D, hasB W H p = true) (hDl : D.length ≤ 1048576) :
    Calls Try.prog 69 #[.agg #[.int .u8 2, .int .i64 W, .int .i64 H, .int .u8 T, .int .i64 S], .slice A1 D.length c1] w fun e w' => ∃ v0_ : Value, e = .returned v0_ ∧ Kd.R k25 25 w' w.heap.size (fun _ => True) v0_ (sortP (norm (doubledL W H T S D))) ∧ Below w.heap.size w w' := by
  have HR := Aside0.mk hr; have HD := Aside0.mk hD; have HC := Aside0.mk hc; have HV := Aside0.mk hv
  clear hr hD hc hv
  have HT0 := Aside0.mk (show TBox ((w.alloc (.cells #[.int .u8 2, .int .i64 W, .int .i64 H, .int .u8 T, .int .i64 S] 42)).alloc (.map #[] 0)) w.heap.size 2 W H T S from blk_alloc (alloc_new _ _) _)
  have HO0 := Aside0.mk (show PSet ((w.alloc (.cells #[.int .u8 2, .int .i64 W, .int .i64 H, .int .u8 T, .int .i64 S] 42)).alloc (.map #[] 0)) (w.heap.size + 1) (norm (doubledL W H T S (D.take 0))) from by
    have := SetAt.made (P := Try.prog) (K := 25) (okp := okP) (kl := klP) (w.alloc (.cells #[.int .u8 2, .int .i64 W, .int .i64 H, .int .u8 T, .int .i64 S] 42))
    rwa [size_alloc] at this)
  have HB0 := Aside0.mk (below_alloc (below_alloc (Below.refl w.heap.size w) (.cells #[.int .u8 2, .int .i64 W, .int .i64 H, .int .u8 T, .int .i64 S] 42)) (.map #[] 0))
  have hmm := @run_makeMap Try.prog
  go_enter Try.func69, Try.ntmps69
  go_wp2
  go_loopw [13] (fun i wr => ∃ k : Nat, k ≤ D.length ∧ i = .int .i64 k ∧ PSet wr (w.heap.size + 1) (norm (doubledL W H T S (D.take k))) ∧ TBox wr w.heap.size 2 W H T S ∧ Below w.heap.size w wr) (fun i _ => D.length - (intOf i).toNat)
  case atStart => exact ⟨0, Nat.zero_le _, rfl, HO0.out, HT0.out, HB0.out⟩
  case round =>
    clear HB0 HO0 HT0
    obtain ⟨k, hk, rfl, ho, ht, hB⟩ := hrel
    have HO := Aside0.mk ho; clear ho
    have HT := Aside0.mk ht; clear ht
    have HB := Aside0.mk hB; clear hB
    have hzr := HO.out.lt
    have hzt := blk_lt HT.out
    obtain ⟨wo, rfl⟩ : ∃ wo : World, wo = wr := ⟨_, rfl⟩
    by_cases hlt2 : k < D.length
    · obtain ⟨ad, hA, d0', d1'⟩ := at_T25 HR.out (k : Int) (by omega) (by omega)
      subst hA
      have d0 := pw_cell_below HB.out d0'
      have d1 := pw_cell_below HB.out d1'
      clear d0' d1'
      rw [Int.toNat_natCast] at d0 d1
      have hpn := near_of_has HV.out.w2 HV.out.h2 (HD.out _ (rd_mem D k hlt2 k rfl))
      have hts := Aside0.mk (take_succ_rd D k hlt2)
      generalize rd_T25 D (k : Int) = p at *
      have t0 := blk_cell HT.out 0; have t1 := blk_cell HT.out 1; have t2 := blk_cell HT.out 2; have t3 := blk_cell HT.out 3; have t4 := blk_cell HT.out 4
      simp at t0 t1 t2 t3 t4
      go_wp2_with fail
      have hfe := fold_Cell_eq HC.out rfl HV.out (p := ⟨2 * p.f0, 2 * p.f1⟩) (nearP_of (by dsimp only; omega))
      dsimp only at hfe
      refine (fold_Cell.calls 10 _ _ _ _ _ _ _ _ _ _ _ hfe).mono ?_
      rintro e w4 ⟨rfl, hb4⟩
      have hch := near_cell HV.out ⟨2 * p.f0, 2 * p.f1⟩
      have hF8 := Aside0.mk (show norm (doubledL W H T S (D.take (k + 1))) = tog (norm (doubledL W H T S (D.take k))) (cellG W H T S ⟨2 * p.f0, 2 * p.f1⟩) by
        rw [hts.out]; unfold doubledL; rw [List.map_append]; exact norm_snoc _ _)
      have hlen8 : (norm (doubledL W H T S (D.take k))).length < maxLen := by
        have h1 := norm_length (doubledL W H T S (D.take k))
        rw [doubledL_length, List.length_take, Nat.min_eq_left hk] at h1
        unfold maxLen; omega
      generalize cellG W H T S ⟨2 * p.f0, 2 * p.f1⟩ = s at *
      obtain ⟨hb4', hz4, B0⟩ := alloc1_below hb4; clear hb4
      clear d0 d1 t0 t1 t2 t3 t4 hfe
      have HO4 := Aside0.mk (HO.out.below hb4'); have HT4 := Aside0.mk (blk_below HT.out hb4')
      have HB4 := Aside0.mk (below_then HB.out (by omega) hb4')
      clear HO HT HB B0
      go_wp2_with fail
      refine (linear_set_turn.calls _ _ s ⟨wf_i64 (by omega) (by omega), wf_i64 (by omega) (by omega)⟩ _ (HO4.out.alloc _) hlen8).mono ?_
      rintro e w9 ⟨rfl, hs9, hg9⟩
      have HO9 := Aside0.mk (hF8.out ▸ hs9)
      have HB9 := Aside0.mk (below_turn (below_alloc HB4.out _) (by rw [size_alloc]; omega) (by omega) hg9)
      have HT9 := Aside0.mk (blk_grown (blk_alloc HT4.out _) hg9 (fun e => by injection e with e; omega))
      clear hs9 hg9 HO4 HT4 HB4 hlen8 hb4'
      go_wp2
      go_roundw
      case rel => exact ⟨k + 1, by omega, by go_num, HO9.out, HT9.out, HB9.out⟩
      case measure => simp [intOf]; omega
    · have hkl : D.take k = D := List.take_of_length_le (by omega)
      have HO4 := Aside0.mk (show PSet wo (w.heap.size + 1) (norm (doubledL W H T S D)) by have := HO.out; rwa [hkl] at this)
      clear hkl HO
      have h1 := norm_length (doubledL W H T S D)
      rw [doubledL_length] at h1
      have hL := Aside0.mk (linear_set_list.calls _ _ wo HO4.out (fun p hp => okF_of_has HV.out.w2 HV.out.h2 (doubledL_home HV.out p hp)) (by omega))
      clear h1
      go_wp2_with (go_at_call 46; refine hL.out.mono ?_; rintro e w4 ⟨v4, he, hR4, hb4⟩; subst he)
      go_ret
      exact ⟨_, rfl, Kd.R_lower hR4 (by omega), below_then HB.out (by omega) hb4⟩
end Go.Proofs.Ytomogkhdfaiekaa.PLin
end

section
namespace Go.Proofs.Ytomogkhdfaiekaa.PLin
open Go.Proofs.Ytomogkhdfaiekaa.HW Go.Proofs.Ytomogkhdfaiekaa.HSet Go.RowKit Go.Proofs.YtomogkhdfaiekaaW.PrintWords Go.Proofs.YtomogkhdfaiekaaW.PrintLast Go.Proofs.YtomogkhdfaiekaaW.PrintMore
set_option linter.unusedVariables false
set_option linter.unusedSimpArgs false

theorem i64_and1 (n : Int) : bits .and .i64 n 1 = n % 2 := by
  have h1 : (BitVec.ofInt 64 1).toNat = 2 ^ 1 - 1 := by decide
  have key : (BitVec.ofInt 64 n &&& BitVec.ofInt 64 1).toNat = (n % ((2 ^ 64 : Nat) : Int)).toNat % 2 ^ 1 := by
    rw [BitVec.toNat_and, BitVec.toNat_ofInt, h1, Nat.and_two_pow_sub_one_eq_mod]
  show IntKind.i64.wrap ((BitVec.ofInt 64 n &&& BitVec.ofInt 64 1).toNat : Nat) = n % 2
  rw [key, IntKind.wrap_i64]
  omega

def jumpN (W H T S : Int) (n : Nat) (D St : List S25) : List S25 :=
  if h : n = 0 then St else jumpN W H T S (n / 2) (sortP (norm (doubledL W H T S D))) (if n % 2 = 1 then norm (movedL W H T S D St) else St)
termination_by n
decreasing_by omega

theorem nearL_length (W H T S : Int) (D : List S25) : (nearL W H T S D).length = D.length := by unfold nearL; simp
theorem box_le {W H : Int} (hv1 : 1 ≤ W) (hv2 : 1 ≤ H) (h : W * H ≤ 1048576) {l : List S25} (hn : l.Nodup) (hall : ∀ p ∈ l, hasB W H p = true) : l.length ≤ 1048576 := by
  have h1 := box_len hn hall
  have h2 : ((H.toNat * W.toNat : Nat) : Int) = W * H := by rw [Int.natCast_mul, Int.toNat_of_nonneg (by omega), Int.toNat_of_nonneg (by omega), Int.mul_comm]
  omega

set_option maxHeartbeats 2000000 in
set_option maxRecDepth 100000 in
theorem jump_walk (W H T S : Int) (hc : topo_Check.f 8 2 W H T S = some 0) (hv : TV W H T S) (A1 : Option Addr) (c1 : Nat) (D : List S25) (b : Nat) (St : List S25) (n : Nat) (w : World) (hr : Kd.C k25 w A1 D.length D) (hc1 : D.length ≤ c1) (hs : PSet w b St)
    (hD : ∀ p ∈ D, nearP p = true) (hDl : D.length ≤ 64) (hS : ∀ p ∈ St, hasB W H p = true) (hSn : St.Nodup) (hn2 : n ≤ 1125899906842624) (hm : W * H ≤ 1048576) :
    Calls Try.prog 53 #[.agg #[.int .u8 2, .int .i64 W, .int .i64 H, .int .u8 T, .int .i64 S], .slice A1 D.length c1, .map (some b), .int .i64 n] w fun e w' => ∃ v0_ : Value, e = .returned (.tuple #[v0_, .int .i64 0]) ∧ Kd.R k25 25 w' w.heap.size (fun _ => True) v0_ (sortP (jumpN W H T S n (sortP (norm (nearL W H T S D))) St)) ∧ Below w.heap.size w w' := by
  have hlt := hs.lt
  have hbl := fun l h1 h2 => box_le hv.w1 hv.h1 hm (l := l) h1 h2
  have HBL := Aside0.mk hbl
  have hw := hv.w2; have hh := hv.h2; have hw1 := hv.w1; have hh1 := hv.h1
  have hmul : -4611686018427387904 ≤ W * H := by have := Int.mul_nonneg (show 0 ≤ W by omega) (show 0 ≤ H by omega); omega
  have HR := Aside0.mk hr; have HD := Aside0.mk hD; have HC := Aside0.mk hc; have HV := Aside0.mk hv; have HS := Aside0.mk hS; have HSN := Aside0.mk hSn
  have HS0 := Aside0.mk (show PSet ((w.alloc (.cells #[.int .u8 2, .int .i64 W, .int .i64 H, .int .u8 T, .int .i64 S] 42)).alloc (.map #[] 0)) b St from (hs.alloc _).alloc _)
  clear hr hD hc hv hbl hS hs hSn
  have HT0 := Aside0.mk (show TBox ((w.alloc (.cells #[.int .u8 2, .int .i64 W, .int .i64 H, .int .u8 T, .int .i64 S] 42)).alloc (.map #[] 0)) w.heap.size 2 W H T S from blk_alloc (alloc_new _ _) _)
  have HO0 := Aside0.mk (show PSet ((w.alloc (.cells #[.int .u8 2, .int .i64 W, .int .i64 H, .int .u8 T, .int .i64 S] 42)).alloc (.map #[] 0)) (w.heap.size + 1) (norm (nearL W H T S (D.take 0))) from by
    have := SetAt.made (P := Try.prog) (K := 25) (okp := okP) (kl := klP) (w.alloc (.cells #[.int .u8 2, .int .i64 W, .int .i64 H, .int .u8 T, .int .i64 S] 42))
    rwa [size_alloc] at this)
  have HB0 := Aside0.mk (below_alloc (below_alloc (Below.refl w.heap.size w) (.cells #[.int .u8 2, .int .i64 W, .int .i64 H, .int .u8 T, .int .i64 S] 42)) (.map #[] 0))
  have hmm := @run_makeMap Try.prog
  go_enter Try.func53, Try.ntmps53
  go_wp2
  go_loopw [28] (fun i wr => ∃ k : Nat, k ≤ D.length ∧ i = .int .i64 k ∧ PSet wr b St ∧ PSet wr (w.heap.size + 1) (norm (nearL W H T S (D.take k))) ∧ TBox wr w.heap.size 2 W H T S ∧ Below w.heap.size w wr) (fun i _ => D.length - (intOf i).toNat)
  case atStart => exact ⟨0, Nat.zero_le _, rfl, HS0.out, HO0.out, HT0.out, HB0.out⟩
  case round =>
    clear HB0 HO0 HT0 HS0
    obtain ⟨k, hk, rfl, hs, ho, ht, hB⟩ := hrel
    have HS1 := Aside0.mk hs; clear hs
    have HO := Aside0.mk ho; clear ho
    have HT := Aside0.mk ht; clear ht
    have HB := Aside0.mk hB; clear hB
    have hzr := HO.out.lt
    have hzt := blk_lt HT.out
    obtain ⟨wo, rfl⟩ : ∃ wo : World, wo = wr := ⟨_, rfl⟩
    by_cases hlt2 : k < D.length
    · obtain ⟨ad, hA, d0', d1'⟩ := at_T25 HR.out (k : Int) (by omega) (by omega)
      subst hA
      have d0 := pw_cell_below HB.out d0'
      have d1 := pw_cell_below HB.out d1'
      clear d0' d1'
      rw [Int.toNat_natCast] at d0 d1
      have hpn := Aside0.mk (HD.out _ (rd_mem D k hlt2 k rfl))
      have hts := Aside0.mk (take_succ_rd D k hlt2)
      generalize rd_T25 D (k : Int) = p at *
      have t0 := blk_cell HT.out 0; have t1 := blk_cell HT.out 1; have t2 := blk_cell HT.out 2; have t3 := blk_cell HT.out 3; have t4 := blk_cell HT.out 4
      simp at t0 t1 t2 t3 t4
      go_wp2_with fail
      have hfe := fold_Cell_eq HC.out rfl HV.out hpn.out
      refine (fold_Cell.calls 10 _ _ _ _ _ _ _ _ _ _ _ hfe).mono ?_
      rintro e w4 ⟨rfl, hb4⟩
      have hch := near_cell HV.out p
      have hF8 := Aside0.mk (show norm (nearL W H T S (D.take (k + 1))) = tog (norm (nearL W H T S (D.take k))) (cellG W H T S p) by
        rw [hts.out]; unfold nearL; rw [List.map_append]; exact norm_snoc _ _)
      have hlen8 : (norm (nearL W H T S (D.take k))).length < maxLen := by
        have h1 := norm_length (nearL W H T S (D.take k))
        rw [nearL_length, List.length_take, Nat.min_eq_left hk] at h1
        unfold maxLen; omega
      generalize cellG W H T S p = s at *
      obtain ⟨hb4', hz4, B0⟩ := alloc1_below hb4; clear hb4
      clear d0 d1 t0 t1 t2 t3 t4 hfe
      have HO4 := Aside0.mk (HO.out.below hb4'); have HT4 := Aside0.mk (blk_below HT.out hb4'); have HS4 := Aside0.mk (HS1.out.below hb4')
      have HB4 := Aside0.mk (below_then HB.out (by omega) hb4')
      clear HO HT HB B0 HS1
      go_wp2_with fail
      refine (linear_set_turn.calls _ _ s ⟨wf_i64 (by omega) (by omega), wf_i64 (by omega) (by omega)⟩ _ (HO4.out.alloc _) hlen8).mono ?_
      rintro e w9 ⟨rfl, hs9, hg9⟩
      have HO9 := Aside0.mk (hF8.out ▸ hs9)
      have HB9 := Aside0.mk (below_turn (below_alloc HB4.out _) (by rw [size_alloc]; omega) (by omega) hg9)
      have HT9 := Aside0.mk (blk_grown (blk_alloc HT4.out _) hg9 (fun e => by injection e with e; omega))
      have HS9 := Aside0.mk ((HS4.out.alloc _).grown hg9 (fun e => by injection e with e; omega))
      clear hs9 hg9 HO4 HT4 HB4 HS4 hlen8 hb4'
      go_wp2
      go_roundw
      case rel => exact ⟨k + 1, by omega, by go_num, HS9.out, HO9.out, HT9.out, HB9.out⟩
      case measure => simp [intOf]; omega
    · have hkl : D.take k = D := List.take_of_length_le (by omega)
      have HO4 := Aside0.mk (show PSet wo (w.heap.size + 1) (norm (nearL W H T S D)) by have := HO.out; rwa [hkl] at this)
      clear hkl HO
      have h1 := norm_length (nearL W H T S D)
      rw [nearL_length] at h1
      have hL := Aside0.mk (linear_set_list.calls _ _ wo HO4.out (fun p hp => okF_of_has HV.out.w2 HV.out.h2 (nearL_home HV.out p hp)) (by omega))
      clear h1
      have HDH := Aside0.mk (show ∀ p ∈ sortP (norm (nearL W H T S D)), hasB W H p = true from fun p hp => nearL_home HV.out p ((sortP_perm _).mem_iff.1 hp))
      have HDN := Aside0.mk (show (sortP (norm (nearL W H T S D))).Nodup from (sortP_perm _).nodup_iff.2 (norm_nodup _))
      generalize hD1 : sortP (norm (nearL W H T S D)) = D1 at *
      have HD1 := Aside0.mk hD1; clear hD1
      go_wp2_with (go_at_call 46; refine hL.out.mono ?_; rintro e w4 ⟨v4, he, hR4, hb4⟩; subst he)
      have HR4 := Aside0.mk (Kd.R_lower hR4 (show w.heap.size ≤ wo.heap.size by omega))
      have HT4 := Aside0.mk (blk_below HT.out hb4); have HS4 := Aside0.mk (HS1.out.below hb4)
      have HB4 := Aside0.mk (below_then HB.out (show w.heap.size ≤ wo.heap.size by omega) hb4)
      clear hR4 hb4 HT HS1 HB HO4 hL
      go_loopw [1, 2, 3] (fun d s m wr => ∃ (m' : Nat) (D' St' : List S25) (b' : Nat), m' ≤ n ∧ m = .int .i64 m' ∧ s = .map (some b') ∧ Kd.R k25 25 wr w.heap.size (fun _ => True) d D' ∧ PSet wr b' St' ∧ TBox wr w.heap.size 2 W H T S ∧ Below w.heap.size w wr ∧ jumpN W H T S m' D' St' = jumpN W H T S n D1 St ∧ D'.Nodup ∧ (∀ p ∈ D', hasB W H p = true) ∧ St'.Nodup ∧ (∀ p ∈ St', hasB W H p = true)) (fun _ _ m _ => (intOf m).toNat)
      case atStart => exact ⟨n, D1, St, b, Nat.le_refl _, rfl, rfl, HR4.out, HS4.out, HT4.out, HB4.out, rfl, HDN.out, HDH.out, HSN.out, HS.out⟩
      case round =>
        clear HR4 HS4 HT4 HB4 hlt2 hk hzr hzt
        obtain ⟨m, D', St', b', hmn, rfl, rfl, hr, hs, ht, hB, hj, hdn, hdh, hsn, hsh⟩ := hrel
        have HR4 := Aside0.mk hr; have HS4 := Aside0.mk hs; have HT := Aside0.mk ht; have HB := Aside0.mk hB; have HJ := Aside0.mk hj; have HDN := Aside0.mk hdn; have HDH := Aside0.mk hdh; have HSN := Aside0.mk hsn; have HS := Aside0.mk hsh
        clear hr hs ht hB hj hdn hdh hsn hsh
        have hzr := HS4.out.lt
        have hzt := blk_lt HT.out
        have hl1 := HBL.out _ HDN.out HDH.out
        have hl2 := HBL.out _ HSN.out HS.out
        obtain ⟨wj, rfl⟩ : ∃ wj : World, wj = wr := ⟨_, rfl⟩
        by_cases hm0 : m = 0
        · subst hm0
          have HJ' := HJ.out
          rw [jumpN, dif_pos rfl] at HJ'
          have hL := Aside0.mk (linear_set_list.calls _ _ wj HS4.out (fun p hp => okF_of_has HV.out.w2 HV.out.h2 (HS.out p hp)) (by omega))
          subst HJ'
          clear HJ
          go_wp2_with (go_at_call 46; refine hL.out.mono ?_; rintro e w4 ⟨v4, he, hR4, hb4⟩; subst he)
          go_ret2
          rw [HD1.out]
          exact ⟨v4, rfl, Kd.R_lower hR4 (show w.heap.size ≤ wj.heap.size by omega), below_then HB.out (show w.heap.size ≤ wj.heap.size by omega) hb4⟩
        · have HJ' := HJ.out
          rw [jumpN, dif_neg hm0] at HJ'
          obtain ⟨A4, c4, hv4, hc4, hC4⟩ := Kd.R_reads HR4.out
          subst hv4
          have HC4 := Aside0.mk hC4; clear hC4
          have hnd := Aside0.mk (fun p hp => nearP_of (by have := near_of_has hw hh (HDH.out p hp); omega) : ∀ p ∈ D', nearP p = true)
          have HDH2 := Aside0.mk (show ∀ p ∈ sortP (norm (doubledL W H T S D')), hasB W H p = true from fun p hp => doubledL_home HV.out p ((sortP_perm _).mem_iff.1 hp))
          have HDN2 := Aside0.mk (show (sortP (norm (doubledL W H T S D'))).Nodup from (sortP_perm _).nodup_iff.2 (norm_nodup _))
          by_cases hm1 : m % 2 = 1
          · rw [if_pos hm1] at HJ'
            have t0 := blk_cell HT.out 0; have t1 := blk_cell HT.out 1; have t2 := blk_cell HT.out 2; have t3 := blk_cell HT.out 3; have t4 := blk_cell HT.out 4
            simp at t0 t1 t2 t3 t4
            have HJ2 := Aside0.mk HJ'; clear HJ' HJ
            have hbit : bits BinOp.and IntKind.i64 (m : Int) 1 = 1 := by rw [i64_and1]; omega
            go_wp2_with fail
            refine (linear_moved.calls 2 W H T S HC.out rfl HV.out b' St' A4 c4 D' wj HS4.out HC4.out hc4 hnd.out HS.out hl1 hl2).mono ?_
            rintro e w5 ⟨b5, rfl, hb5, hs5, hB5⟩
            have HS5 := Aside0.mk hs5
            have HT5 := Aside0.mk (blk_below HT.out hB5)
            have HB5 := Aside0.mk (below_then HB.out (show w.heap.size ≤ wj.heap.size by omega) hB5)
            have HC5 := Aside0.mk (Kd.C_below HC4.out hB5)
            have hz5 := hB5.size
            have hz6 : w.heap.size < w5.heap.size := by omega
            clear HS4 HC4 HB HT hs5 hB5 HR4 t0 t1 t2 t3 t4
            have t0 := blk_cell HT5.out 0; have t1 := blk_cell HT5.out 1; have t2 := blk_cell HT5.out 2; have t3 := blk_cell HT5.out 3; have t4 := blk_cell HT5.out 4
            simp at t0 t1 t2 t3 t4
            go_wp2_with fail
            refine (linear_doubled.calls W H T S HC.out HV.out A4 c4 D' w5 HC5.out hc4 HDH.out hl1).mono ?_
            rintro e w6 ⟨v6, rfl, hR6, hB6⟩
            have HS6 := Aside0.mk (HS5.out.below hB6)
            have HT6 := Aside0.mk (blk_below HT5.out hB6)
            have HB6 := Aside0.mk (below_then HB5.out (show w.heap.size ≤ w5.heap.size by omega) hB6)
            have HR6 := Aside0.mk (Kd.R_lower hR6 (show w.heap.size ≤ w5.heap.size by omega))
            clear HS5 HT5 HB5 HC5 hR6 hB6 t0 t1 t2 t3 t4
            go_wp2
            go_roundw
            case rel => exact ⟨m / 2, _, _, b5, by omega, by simp, rfl, HR6.out, HS6.out, HT6.out, HB6.out, HJ2.out, HDN2.out, HDH2.out, norm_nodup _, movedL_home HV.out⟩
            case measure => simp [intOf]; omega
          · rw [if_neg hm1] at HJ'
            have t0 := blk_cell HT.out 0; have t1 := blk_cell HT.out 1; have t2 := blk_cell HT.out 2; have t3 := blk_cell HT.out 3; have t4 := blk_cell HT.out 4
            simp at t0 t1 t2 t3 t4
            have HJ2 := Aside0.mk HJ'; clear HJ' HJ
            have hbit : bits BinOp.and IntKind.i64 (m : Int) 1 = 0 := by rw [i64_and1]; omega
            go_wp2_with fail
            refine (linear_doubled.calls W H T S HC.out HV.out A4 c4 D' wj HC4.out hc4 HDH.out hl1).mono ?_
            rintro e w6 ⟨v6, rfl, hR6, hB6⟩
            have HS6 := Aside0.mk (HS4.out.below hB6)
            have HT6 := Aside0.mk (blk_below HT.out hB6)
            have HB6 := Aside0.mk (below_then HB.out (show w.heap.size ≤ wj.heap.size by omega) hB6)
            have HR6 := Aside0.mk (Kd.R_lower hR6 (show w.heap.size ≤ wj.heap.size by omega))
            clear HS4 HT HB HC4 HR4 hR6 hB6 t0 t1 t2 t3 t4
            go_wp2
            go_roundw
            case rel => exact ⟨m / 2, _, _, b', by omega, by simp, rfl, HR6.out, HS6.out, HT6.out, HB6.out, HJ2.out, HDN2.out, HDH2.out, HSN.out, HS.out⟩
            case measure => simp [intOf]; omega
end Go.Proofs.Ytomogkhdfaiekaa.PLin
end

section
namespace Go.Proofs.Ytomogkhdfaiekaa.PLin
open Go.Proofs.Ytomogkhdfaiekaa.HW Go.Proofs.Ytomogkhdfaiekaa.HSet Go.RowKit Go.Proofs.YtomogkhdfaiekaaW.PrintWords Go.Proofs.YtomogkhdfaiekaaW.PrintLast Go.Proofs.YtomogkhdfaiekaaW.PrintMore
set_option linter.unusedVariables false
set_option linter.unusedSimpArgs false

theorem ins_all_nodup (l : List S25) : ∀ S : List S25, (S ++ l).Nodup → l.foldl ins S = S ++ l := by
  induction l with
  | nil => intro S _; simp
  | cons a l ih =>
    intro S h
    rw [List.foldl_cons]
    have ha : a ∉ S := fun hm => by
      have := (List.nodup_append.1 h).2.2 a hm a (by simp)
      exact this rfl
    have : ins S a = S ++ [a] := by unfold ins; rw [if_neg ha]
    rw [this, ih _ (by simpa using h)]
    simp

theorem all_has_succ (W H : Int) (l : List S25) (k : Nat) (h : k < l.length) : (l.take (k + 1)).all (hasB W H) = ((l.take k).all (hasB W H) && hasB W H (rd_T25 l k)) := by
  rw [take_succ_rd l k h, List.all_append]; simp

set_option maxHeartbeats 2000000 in
set_option maxRecDepth 100000 in
theorem asked_walk (W H T S : Int) (h0 : linear_torus.f 8 2 W H T S = some 0) (hc : topo_Check.f 8 2 W H T S = some 0) (hv : TV W H T S) (A1 : Option Addr) (c1 : Nat) (D : List S25) (A2 : Option Addr) (c2 : Nat) (L : List S25) (w : World)
    (hr : Kd.C k25 w A1 D.length D) (hc1 : D.length ≤ c1) (hr2 : Kd.C k25 w A2 L.length L) (hc2 : L.length ≤ c2) (h1 : linear_Check.f D = some 0) (r : Int) (hrr : r = if L.all (hasB W H) = true then if L.Nodup then 0 else 6 else 130) :
    Calls Try.prog 52 #[.agg #[.int .u8 2, .int .i64 W, .int .i64 H, .int .u8 T, .int .i64 S], .slice A1 D.length c1, .slice A2 L.length c2] w fun e w' =>
      ∃ v, e = .returned (.tuple #[v, .int .i64 r]) ∧ (L.all (hasB W H) = true → L.Nodup → ∃ b', v = .map (some b') ∧ PSet w' b' L) ∧ Below w.heap.size w w' := by
  have hmax := Kd.C_max hr2
  have HRR := Aside0.mk hrr; clear hrr
  have HR := Aside0.mk hr; have HR2 := Aside0.mk hr2; have HC := Aside0.mk hc; have HV := Aside0.mk hv; have H0 := Aside0.mk h0; have H1 := Aside0.mk h1
  clear hr hr2 hc hv h0 h1
  go_enter Try.func52, Try.ntmps52
  go_wp2_with fail
  refine (linear_torus.calls 8 _ _ _ _ _ _ _ H0.out).mono ?_
  rintro e w1 ⟨rfl, hb1⟩
  obtain ⟨hB1, hz1, T1⟩ := alloc1_below hb1; clear hb1
  have HB1 := Aside0.mk hB1; have HT1 := Aside0.mk T1
  clear hB1 T1
  go_wp2_with fail
  refine (linear_Check.calls A1 c1 D 0 w1 (Kd.C_below HR.out HB1.out) hc1 H1.out).mono ?_
  rintro e w2 ⟨rfl, hb2⟩
  have HB2 := Aside0.mk (below_then HB1.out (show w.heap.size ≤ w1.heap.size by omega) hb2)
  have HT2 := Aside0.mk (blk_below HT1.out hb2)
  clear hb2 HB1 HT1
  go_wp2
  go_loopw [28] (fun i wr => ∃ k : Nat, k ≤ L.length ∧ i = .int .i64 k ∧ (L.take k).all (hasB W H) = true ∧ TBox wr w.heap.size 2 W H T S ∧ Below w.heap.size w wr) (fun i _ => L.length - (intOf i).toNat)
  case atStart => exact ⟨0, Nat.zero_le _, rfl, by simp, HT2.out, HB2.out⟩
  case round =>
    clear HT2 HB2 hz1
    obtain ⟨k, hk, rfl, hall, ht, hB⟩ := hrel
    have HA := Aside0.mk hall; have HT := Aside0.mk ht; have HB := Aside0.mk hB
    clear hall ht hB
    have hzt := blk_lt HT.out
    obtain ⟨wo, rfl⟩ : ∃ wo : World, wo = wr := ⟨_, rfl⟩
    by_cases hlt : k < L.length
    · obtain ⟨ad, hA, d0', d1'⟩ := at_T25 HR2.out (k : Int) (by omega) (by omega)
      subst hA
      have d0 := pw_cell_below HB.out d0'
      have d1 := pw_cell_below HB.out d1'
      clear d0' d1'
      rw [Int.toNat_natCast] at d0 d1
      have hts := Aside0.mk (all_has_succ W H L k hlt)
      have hmem := Aside0.mk (rd_mem L k hlt k rfl)
      generalize rd_T25 L (k : Int) = p at *
      have t0 := blk_cell HT.out 0; have t1 := blk_cell HT.out 1; have t2 := blk_cell HT.out 2; have t3 := blk_cell HT.out 3; have t4 := blk_cell HT.out 4
      simp at t0 t1 t2 t3 t4
      obtain ⟨bb, be, hhas, hbb⟩ := topo_Has_eq HC.out HV.out p
      go_wp2_with fail
      refine (topo_Has.calls _ _ _ _ _ _ _ _ _ _ hhas).mono ?_
      rintro e w4 ⟨rfl, hb4⟩
      obtain ⟨hb4', hz4, B0⟩ := alloc1_below hb4; clear hb4
      have HB4 := Aside0.mk (below_then HB.out (show w.heap.size ≤ wo.heap.size by omega) hb4')
      have HT4 := Aside0.mk (blk_below HT.out hb4')
      clear HB HT hb4' B0 t0 t1 t2 t3 t4 d0 d1 hhas
      cases hh : hasB W H p with
      | true =>
        rw [hh, Bool.and_eq_true, beq_iff_eq] at hbb
        obtain ⟨rfl, rfl⟩ := hbb
        go_wp2
        go_roundw
        case rel => exact ⟨k + 1, by omega, by go_num, by rw [hts.out, HA.out, Bool.true_and]; exact hh, HT4.out, HB4.out⟩
        case measure => simp [intOf]; omega
      | false =>
        rw [hh] at hbb
        have hno : ¬ (L.all (hasB W H) = true) := fun hall => by rw [List.all_eq_true] at hall; have := hall p hmem.out; rw [hh] at this; cases this
        have hrr := HRR.out
        rw [if_neg hno] at hrr
        subst hrr
        have HN := Aside0.mk hno; clear hno hh
        cases bb with
        | false =>
          clear hbb
          go_wp2
          go_ret2
          exact ⟨_, rfl, fun h => absurd h HN.out, HB4.out⟩
        | true =>
          rw [Bool.true_and] at hbb
          have hbe : (be != 0) = true := by rw [bne, hbb]; rfl
          clear hbb
          go_wp2
          go_ret2
          exact ⟨_, rfl, fun h => absurd h HN.out, HB4.out⟩
    · have hkl : L.take k = L := List.take_of_length_le (by omega)
      have HA' := Aside0.mk (show L.all (hasB W H) = true by have := HA.out; rwa [hkl] at this)
      have hrr := HRR.out
      rw [if_pos HA'.out] at hrr
      clear hkl HA
      have hoks : ∀ p ∈ L, okP p := fun p hp => okP_of_okF (okF_of_has HV.out.w2 HV.out.h2 (List.all_eq_true.1 HA'.out p hp))
      have hof := Aside0.mk (linear_of.calls A2 c2 L wo (Kd.C_below HR2.out HB.out) hc2 hoks)
      clear hoks
      have hil := ins_all_length L
      have hind := Aside0.mk (fun h => ins_all_nodup L [] (by simpa using h) : L.Nodup → _)
      by_cases hnd : L.Nodup
      · rw [if_pos hnd] at hrr
        subst hrr
        have hdd : decide ((L.foldl ins []).length = L.length) = true := decide_eq_true (hil.2 hnd)
        have HND := Aside0.mk hnd
        clear hil hnd HRR
        go_wp2_with (go_at_call 41; refine hof.out.mono ?_; rintro e w5 ⟨rfl, hs5, hB5⟩; rw [hdd])
        go_ret2
        refine ⟨_, rfl, fun _ _ => ⟨_, rfl, ?_⟩, below_then HB.out (show w.heap.size ≤ wo.heap.size by omega) hB5⟩
        rw [hind.out HND.out] at hs5
        exact hs5
      · rw [if_neg hnd] at hrr
        subst hrr
        have hdd : decide ((L.foldl ins []).length = L.length) = false := decide_eq_false (fun h => hnd (hil.1 h))
        have HND := Aside0.mk hnd
        clear hil hnd HRR
        go_wp2_with (go_at_call 41; refine hof.out.mono ?_; rintro e w5 ⟨rfl, hs5, hB5⟩; rw [hdd])
        go_ret2
        exact ⟨_, rfl, fun _ h => absurd h HND.out, below_then HB.out (show w.heap.size ≤ wo.heap.size by omega) hB5⟩
end Go.Proofs.Ytomogkhdfaiekaa.PLin
end

section
namespace Go.Proofs.Ytomogkhdfaiekaa.PLin
open Go.Proofs.Ytomogkhdfaiekaa.HW Go.Proofs.Ytomogkhdfaiekaa.HSet Go.RowKit Go.Proofs.YtomogkhdfaiekaaW.PrintWords Go.Proofs.YtomogkhdfaiekaaW.PrintLast Go.Proofs.YtomogkhdfaiekaaW.PrintMore
set_option linter.unusedVariables false
set_option linter.unusedSimpArgs false

/-- What jump answers of what may be. -/
def jumpE (W H T S : Int) (D L : List S25) (n : Int) : List S25 × Int :=
  if n < 0 then ([], 2) else if n > 1125899906842624 then ([], 5) else if W * H > 1048576 then ([], 4)
  else (sortP (jumpN W H T S n.toNat (sortP (norm (nearL W H T S D))) L), 0)

def linear_Jump.f (K W H T S : Int) (D L : List S25) (n : Int) : Option (List S25 × Int) :=
  (linear_torus.f 8 K W H T S).bind fun e0 =>
  if e0 = 0 then (linear_Check.f D).bind fun e1 =>
    if e1 = 0 then if L.all (hasB W H) = true then if L.Nodup then some (jumpE W H T S D L n) else some ([], 6) else some ([], 130)
    else some ([], e1)
  else some ([], e0)

set_option maxHeartbeats 1000000 in
set_option maxRecDepth 100000 in
theorem linear_jump.calls (W H T S : Int) (hc : topo_Check.f 8 2 W H T S = some 0) (hv : TV W H T S) (A1 : Option Addr) (c1 : Nat) (D : List S25) (b : Nat) (St : List S25) (n : Int) (w : World) (hr : Kd.C k25 w A1 D.length D) (hc1 : D.length ≤ c1) (hs : PSet w b St)
    (hD : ∀ p ∈ D, nearP p = true) (hDl : D.length ≤ 64) (hS : ∀ p ∈ St, hasB W H p = true) (hSn : St.Nodup) (r1 : List S25) (r2 : Int) (h : jumpE W H T S D St n = (r1, r2)) :
    Calls Try.prog 53 #[.agg #[.int .u8 2, .int .i64 W, .int .i64 H, .int .u8 T, .int .i64 S], .slice A1 D.length c1, .map (some b), .int .i64 n] w fun e w' => ∃ v0_ : Value, e = .returned (.tuple #[v0_, .int .i64 r2]) ∧ Kd.R k25 25 w' w.heap.size (fun _ => True) v0_ r1 ∧ Below w.heap.size w w' := by
  have hw := hv.w2; have hh := hv.h2; have hw1 := hv.w1; have hh1 := hv.h1
  have hmul : 0 ≤ W * H := Int.mul_nonneg (show 0 ≤ W by omega) (show 0 ≤ H by omega)
  have hmul2 : W * H ≤ 65536 * 65536 := Int.mul_le_mul hw hh (by omega) (by omega)
  unfold jumpE at h
  by_cases c1' : n < 0
  · rw [if_pos c1'] at h
    obtain ⟨rfl, rfl⟩ := Prod.mk.inj h
    clear h hr hs hc hv hD hS
    have hn' : decide (n < 0) = true := decide_eq_true c1'
    go_enter Try.func53, Try.ntmps53
    go_wp2
    go_ret2
    exact ⟨_, rfl, Kd.R_nil _ _ _ _ _, below_alloc (Below.refl _ _) _⟩
  rw [if_neg c1'] at h
  by_cases c2 : n > 1125899906842624
  · rw [if_pos c2] at h
    obtain ⟨rfl, rfl⟩ := Prod.mk.inj h
    clear h hr hs hc hv hD hS
    have hn' : decide (n < 0) = false := decide_eq_false c1'
    have hn2' : decide (1125899906842624 < n) = true := decide_eq_true c2
    go_enter Try.func53, Try.ntmps53
    go_wp2
    go_ret2
    exact ⟨_, rfl, Kd.R_nil _ _ _ _ _, below_alloc (Below.refl _ _) _⟩
  rw [if_neg c2] at h
  by_cases c3 : W * H > 1048576
  · rw [if_pos c3] at h
    obtain ⟨rfl, rfl⟩ := Prod.mk.inj h
    clear h hr hs hc hv hD hS
    have hn' : decide (n < 0) = false := decide_eq_false c1'
    have hn2' : decide (1125899906842624 < n) = false := decide_eq_false c2
    go_enter Try.func53, Try.ntmps53
    go_wp2
    go_ret2
    exact ⟨_, rfl, Kd.R_nil _ _ _ _ _, below_alloc (Below.refl _ _) _⟩
  rw [if_neg c3] at h
  obtain ⟨rfl, rfl⟩ := Prod.mk.inj h
  obtain ⟨m, rfl⟩ : ∃ m : Nat, n = m := ⟨n.toNat, by omega⟩
  rw [Int.toNat_natCast]
  exact jump_walk W H T S hc hv A1 c1 D b St m w hr hc1 hs hD hDl hS hSn (by omega) (by omega)

set_option maxHeartbeats 1000000 in
set_option maxRecDepth 100000 in
theorem linear_Jump.calls (K W H T S : Int) (A1 : Option Addr) (c1 : Nat) (D : List S25) (A2 : Option Addr) (c2 : Nat) (L : List S25) (n : Int) (r1 : List S25) (r2 : Int) (w : World)
    (hr1 : Kd.C k25 w A1 D.length D) (hc1 : D.length ≤ c1) (hr2 : Kd.C k25 w A2 L.length L) (hc2 : L.length ≤ c2) (h : linear_Jump.f K W H T S D L n = some (r1, r2)) :
    Calls Try.prog 25 #[.agg #[.int .u8 K, .int .i64 W, .int .i64 H, .int .u8 T, .int .i64 S], .slice A1 D.length c1, .slice A2 L.length c2, .int .i64 n] w fun e w' => ∃ v0_ : Value, e = .returned (.tuple #[v0_, .int .i64 r2]) ∧ Kd.R k25 25 w' w.heap.size (fun _ => True) v0_ r1 ∧ Below w.heap.size w w' := by
  unfold linear_Jump.f at h
  obtain ⟨e0, h0, g⟩ := Option.bind_eq_some_iff.mp h
  clear h
  have h := g
  clear g
  have H0 := Aside0.mk h0
  by_cases he0 : e0 = 0
  case neg =>
    rw [if_neg he0] at h
    simp only [Option.some.injEq, Prod.mk.injEq] at h
    obtain ⟨rfl, rfl⟩ := h
    have he0' : (e0 != 0) = true := bne_iff_ne.2 he0
    have hA : Calls Try.prog 52 #[.agg #[.int .u8 K, .int .i64 W, .int .i64 H, .int .u8 T, .int .i64 S], .slice A1 D.length c1, .slice A2 L.length c2] (w.alloc (.cells #[.int .u8 K, .int .i64 W, .int .i64 H, .int .u8 T, .int .i64 S] 42)) fun e w' =>
      e = .returned (.tuple #[.map none, .int .i64 e0]) ∧ Below (w.alloc (.cells #[.int .u8 K, .int .i64 W, .int .i64 H, .int .u8 T, .int .i64 S] 42)).heap.size (w.alloc (.cells #[.int .u8 K, .int .i64 W, .int .i64 H, .int .u8 T, .int .i64 S] 42)) w' := by
      clear hr1 hr2 h0 he0
      generalize w.alloc (.cells #[.int .u8 K, .int .i64 W, .int .i64 H, .int .u8 T, .int .i64 S] 42) = w0
      go_enter Try.func52, Try.ntmps52
      go_wp2_with (go_at_call 65; refine (linear_torus.calls 8 _ _ _ _ _ _ _ H0.out).mono ?_; rintro e w1 ⟨rfl, hb1⟩)
      go_ret2
      exact ⟨rfl, (alloc1_below hb1).1⟩
    have HA := Aside0.mk hA
    clear hr1 hr2 h0 he0 hA
    go_enter Try.func25, Try.ntmps25
    go_wp2_with (go_at_call 52; refine HA.out.mono ?_; rintro e w1 ⟨rfl, hb1⟩)
    go_ret2
    exact ⟨_, rfl, Kd.R_nil _ _ _ _ _, (alloc1_below hb1).1⟩
  subst he0
  rw [if_pos rfl] at h
  obtain ⟨rfl, hc, hv⟩ := torus_ok h0
  have HC := Aside0.mk hc; have HV := Aside0.mk hv
  obtain ⟨e1, h1, g⟩ := Option.bind_eq_some_iff.mp h
  clear h
  have h := g
  clear g
  have H1 := Aside0.mk h1
  have HR1 := Aside0.mk hr1; have HR2 := Aside0.mk hr2
  by_cases he1 : e1 = 0
  case neg =>
    rw [if_neg he1] at h
    simp only [Option.some.injEq, Prod.mk.injEq] at h
    obtain ⟨rfl, rfl⟩ := h
    have he1' : (e1 != 0) = true := bne_iff_ne.2 he1
    have hA : Calls Try.prog 52 #[.agg #[.int .u8 2, .int .i64 W, .int .i64 H, .int .u8 T, .int .i64 S], .slice A1 D.length c1, .slice A2 L.length c2] (w.alloc (.cells #[.int .u8 2, .int .i64 W, .int .i64 H, .int .u8 T, .int .i64 S] 42)) fun e w' =>
      e = .returned (.tuple #[.map none, .int .i64 e1]) ∧ Below (w.alloc (.cells #[.int .u8 2, .int .i64 W, .int .i64 H, .int .u8 T, .int .i64 S] 42)).heap.size (w.alloc (.cells #[.int .u8 2, .int .i64 W, .int .i64 H, .int .u8 T, .int .i64 S] 42)) w' := by
      have HRa := Aside0.mk (Kd.C_alloc hr1 (.cells #[.int .u8 2, .int .i64 W, .int .i64 H, .int .u8 T, .int .i64 S] 42))
      clear hr1 hr2 h0 he1 h1 hc hv HR1 HR2
      generalize w.alloc (.cells #[.int .u8 2, .int .i64 W, .int .i64 H, .int .u8 T, .int .i64 S] 42) = w0 at *
      go_enter Try.func52, Try.ntmps52
      go_wp2_with (go_at_call 65; refine (linear_torus.calls 8 _ _ _ _ _ _ _ H0.out).mono ?_; rintro e w1 ⟨rfl, hb1⟩; obtain ⟨hB1, hz1, T1⟩ := alloc1_below hb1; clear hb1; have HB1 := Aside0.mk hB1; clear hB1 T1)
      go_wp2_with fail
      refine (linear_Check.calls A1 c1 D e1 w1 (Kd.C_below HRa.out HB1.out) hc1 H1.out).mono ?_
      rintro e w2 ⟨rfl, hb2⟩
      go_wp2
      go_ret2
      exact ⟨rfl, below_then HB1.out (by omega) hb2⟩
    have HA := Aside0.mk hA
    clear hr1 hr2 h0 he1 hA hc hv h1
    go_enter Try.func25, Try.ntmps25
    go_wp2_with (go_at_call 52; refine HA.out.mono ?_; rintro e w1 ⟨rfl, hb1⟩)
    go_ret2
    exact ⟨_, rfl, Kd.R_nil _ _ _ _ _, (alloc1_below hb1).1⟩
  subst he1
  rw [if_pos rfl] at h
  obtain ⟨r, hr⟩ : ∃ r : Int, r = if L.all (hasB W H) = true then if L.Nodup then 0 else 6 else 130 := ⟨_, rfl⟩
  have HA := Aside0.mk (asked_walk W H T S h0 hc hv A1 c1 D A2 c2 L (w.alloc (.cells #[.int .u8 2, .int .i64 W, .int .i64 H, .int .u8 T, .int .i64 S] 42)) (Kd.C_alloc hr1 _) hc1 (Kd.C_alloc hr2 _) hc2 h1 r hr)
  clear hr1 hr2 h0 h1 hc hv
  by_cases ha : L.all (hasB W H) = true
  case neg =>
    rw [if_neg ha] at h hr
    subst hr
    simp only [Option.some.injEq, Prod.mk.injEq] at h
    obtain ⟨rfl, rfl⟩ := h
    clear ha
    go_enter Try.func25, Try.ntmps25
    go_wp2_with (go_at_call 52; refine HA.out.mono ?_; rintro e w1 ⟨v, rfl, _, hb1⟩)
    go_ret2
    exact ⟨_, rfl, Kd.R_nil _ _ _ _ _, (alloc1_below hb1).1⟩
  rw [if_pos ha] at h hr
  by_cases hnd : L.Nodup
  case neg =>
    rw [if_neg hnd] at h hr
    subst hr
    simp only [Option.some.injEq, Prod.mk.injEq] at h
    obtain ⟨rfl, rfl⟩ := h
    clear ha hnd
    go_enter Try.func25, Try.ntmps25
    go_wp2_with (go_at_call 52; refine HA.out.mono ?_; rintro e w1 ⟨v, rfl, _, hb1⟩)
    go_ret2
    exact ⟨_, rfl, Kd.R_nil _ _ _ _ _, (alloc1_below hb1).1⟩
  rw [if_pos hnd] at h hr
  subst hr
  have HAL := Aside0.mk ha; have HND := Aside0.mk hnd
  have HJ := Aside0.mk (Option.some.inj h)
  clear h ha hnd
  go_enter Try.func25, Try.ntmps25
  go_wp2_with fail
  refine HA.out.mono ?_
  rintro e w1 ⟨v, rfl, hpost, hb1⟩
  obtain ⟨b', rfl, hset⟩ := hpost HAL.out HND.out
  obtain ⟨hB1, hz1, T1⟩ := alloc1_below hb1; clear hb1 hpost
  have HB1 := Aside0.mk hB1; have HS := Aside0.mk hset
  have t0 := blk_cell T1 0; have t1 := blk_cell T1 1; have t2 := blk_cell T1 2; have t3 := blk_cell T1 3; have t4 := blk_cell T1 4
  simp at t0 t1 t2 t3 t4
  clear hB1 T1 hset
  obtain ⟨n1, near1, nd1⟩ := check_zero H1.out
  have HN := Aside0.mk near1
  clear near1 nd1
  go_wp2_with fail
  refine (linear_jump.calls W H T S HC.out HV.out A1 c1 D b' L n w1 (Kd.C_below HR1.out HB1.out) hc1 HS.out HN.out n1 (List.all_eq_true.1 HAL.out) HND.out r1 r2 HJ.out).mono ?_
  rintro e w2 ⟨v2, rfl, hR2, hb2⟩
  clear t0 t1 t2 t3 t4
  go_wp2
  go_ret2
  exact ⟨_, rfl, Kd.R_lower hR2 (by omega), below_then HB1.out (by omega) hb2⟩
end Go.Proofs.Ytomogkhdfaiekaa.PLin
end
