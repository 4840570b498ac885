/-
  linear's laws: lists that are lent with marks behind them, and whether they are kept: their walks.
-/
import Derived.Test.YtomogkhdfaiekaaHAlive
import Derived.Test.YtomogkhdfaiekaaPLinx0
namespace Go.Proofs.Ytomogkhdfaiekaa.PLin
open Go.Proofs.Ytomogkhdfaiekaa.HW Go.Proofs.Ytomogkhdfaiekaa.HSet Go.RowKit Go.Proofs.YtomogkhdfaiekaaW.PrintWords Go.Proofs.YtomogkhdfaiekaaW.PrintLast Go.Proofs.YtomogkhdfaiekaaW.PrintMore
set_option linter.unusedVariables false
set_option linter.unusedSimpArgs false

/-- The marks behind a list. -/
def marks : List S25 := (List.range 70).map fun (i : Nat) => ⟨-77, (i : Int)⟩
theorem marks_length : marks.length = 70 := by unfold marks; simp
theorem marks_succ (i : Nat) (h : i < 70) : marks.take (i + 1) = marks.take i ++ [⟨-77, (i : Int)⟩] := by
  unfold marks
  rw [← List.map_take, ← List.map_take, List.take_range, List.take_range, Nat.min_eq_left (by omega), Nat.min_eq_left (by omega), List.range_succ, List.map_append]
  rfl

set_option maxHeartbeats 1000000 in
set_option maxRecDepth 100000 in
theorem lent_walk (A0 : Option Addr) (c0 : Nat) (l : List S25) (w : World) (hr0 : Kd.C k25 w A0 l.length l) (hc0 : l.length ≤ c0) (hn : l.length ≤ 8000000000000) :
    Calls Try.prog 16 #[.slice A0 l.length c0] w fun e w' => ∃ (A : Option Addr) (c : Nat), e = .returned (.slice A l.length c) ∧ l.length + 70 ≤ c ∧ Kd.R k25 25 w' w.heap.size (fun _ => True) (.slice A (l.length + 70) c) (l ++ marks) ∧ Below w.heap.size w w' := by
  have hu25 := Try.underlying25
  have HR0 := Aside0.mk hr0
  clear hr0
  go_enter Try.func16, Try.ntmps16
  go_wp2_with (first | ((with_reducible refine gate_builtin (b := .append) (xs := #[.tmp 5, .tmp 6]) rfl ?_); at_builtin; refine Kd.R_append_rows k25 (w0 := w) w.heap.size rfl (.tmp 5) (.tmp 6) 23 25 (.agg #[(.int .i64 0), (.int .i64 0)]) 16 rfl Try.underlying23 info25 rfl (by decide) (by omega) (.slice none 0 0) ([] : List (S25)) l _ _ _ (fun _ => True) (fun _ => False) rfl rfl ?aO ?aR (fun _ _ h => h) (fun _ h => h.elim) ?aF ?aB ?aS ?aL ?_; (case aR => exact HR0.out); (case aB => exact Below.refl _ _); (case aF => exact (fun _ _ => trivial)); (case aO => exact ((Kd.R_nil _ _ _ _ (fun _ => True)))); (case aS => exact Nat.le_refl _); (case aL => simp only [List.length_nil]; omega); intro v1 w1 ho hb hg hat))
  have HO1 := Aside0.mk (show Kd.R k25 25 w1 w.heap.size (fun _ => True) v1 (l ++ marks.take 0) from by rw [List.take_zero, List.append_nil]; exact ho)
  have HB1 := Aside0.mk hb
  clear ho hb hg hat
  go_loopw [3, 4] (fun v i wr => ∃ (k : Nat) (u3 : Value), k ≤ 70 ∧ i = .int .i64 k ∧ u3 = v ∧ Kd.R k25 25 wr w.heap.size (fun _ => True) u3 (l ++ marks.take k) ∧ Below w.heap.size w wr) (fun _ i _ => 70 - (intOf i).toNat)
  case atStart => exact ⟨0, _, Nat.zero_le _, rfl, rfl, HO1.out, HB1.out⟩
  case round =>
    clear HO1 HB1
    obtain ⟨k, u3, hk, rfl, rfl, ho, hB⟩ := hrel
    have HO := Aside0.mk ho; have HB := Aside0.mk hB
    clear ho hB
    obtain ⟨wo, rfl⟩ : ∃ wo : World, wo = wr := ⟨_, rfl⟩
    by_cases hlt : k < 70
    · have hms := Aside0.mk (marks_succ k hlt)
      have hll : (l ++ marks.take k).length = l.length + k := by rw [List.length_append, List.length_take, marks_length]; omega
      have HLL := Aside0.mk hll; clear hll
      go_wp2_with (first | ((with_reducible refine gate_builtin (b := .append) (xs := #[.tmp 12, .tmp 15]) rfl ?_); at_builtin; refine Kd.R_append k25 (w0 := w) w.heap.size rfl (.tmp 12) (.tmp 15) 23 25 (.agg #[(.int .i64 0), (.int .i64 0)]) 16 rfl Try.underlying23 info25 rfl (by decide) (by omega) u3 (l ++ marks.take k) (⟨(-77), (k : Int)⟩ : S25) [.int .i64 (-77), .int .i64 (k : Int)] (fun _ => True) (fun _ => False) rfl rfl ?aP (fun _ hk => hk.elim) ?aF ?aO ?aB ?aS ?aL ?_; (case aP => exact k25_mkM _ _ _ (⟨(-77), (k : Int)⟩ : S25)); (case aB => first | exact HB.out | exact below_alloc HB.out _); (case aF => exact (fun _ _ => trivial)); (case aO => first | exact HO.out | exact Kd.R_alloc HO.out _); (case aS => have := HB.out.size; first | omega | (rw [size_alloc]; omega)); (case aL => have := HLL.out; omega); intro v2 w2 ho hb hg hat))
      have HO2 := Aside0.mk (show Kd.R k25 25 w2 w.heap.size (fun _ => True) v2 (l ++ marks.take (k + 1)) from by rw [hms.out, ← List.append_assoc]; exact ho)
      have HB2 := Aside0.mk hb
      clear ho hb hg hat
      go_roundw
      case rel => exact ⟨k + 1, _, by omega, by go_num, rfl, HO2.out, HB2.out⟩
      case measure => simp [intOf]; omega
    · have hkl : marks.take k = marks := List.take_of_length_le (by rw [marks_length]; omega)
      have HO2 := Aside0.mk (show Kd.R k25 25 wo w.heap.size (fun _ => True) u3 (l ++ marks) from by have := HO.out; rwa [hkl] at this)
      clear hkl HO
      obtain ⟨Ao, co, eo⟩ := Kd.R_slice HO2.out
      subst eo
      have hcap := (Kd.R_reads' HO2.out).2.1
      have hll : (l ++ marks).length = l.length + 70 := by rw [List.length_append, marks_length]
      have HO3 := Aside0.mk HO2.out
      rw [hll] at HO3 hcap ⊢
      clear HO2 hll
      go_wp2
      go_ret
      exact ⟨_, _, rfl, hcap, HO3.out, HB.out⟩

theorem rd_marks (l : List S25) (j : Nat) (h : j < 70) : rd_T25 (l ++ marks) ((l.length : Int) + (j : Int)) = ⟨-77, (j : Int)⟩ := by
  unfold rd_T25
  rw [show ((l.length : Int) + (j : Int)).toNat = l.length + j by omega]
  unfold marks
  simp [h]

set_option maxHeartbeats 1000000 in
set_option maxRecDepth 100000 in
/-- kept: a list that was lent is as it was, the marks too. -/
theorem kept_walk (A0 : Option Addr) (c0 : Nat) (A1 : Option Addr) (c1 : Nat) (l : List S25) (w : World) (hr0 : Kd.C k25 w A0 (l.length + 70) (l ++ marks)) (hc0 : l.length + 70 ≤ c0) (hr1 : Kd.C k25 w A1 l.length l) (hc1 : l.length ≤ c1) (hn : l.length ≤ 8000000000000) :
    Calls Try.prog 17 #[.slice A0 l.length c0, .slice A1 l.length c1] w fun e w' => e = .returned (.bool true) ∧ Below w.heap.size w w' := by
  have hll : (l ++ marks).length = l.length + 70 := by rw [List.length_append, marks_length]
  have hp : Kd.C k25 w A0 l.length l := by
    have := Kd.C_take (m := l.length) (show Kd.C k25 w A0 (l ++ marks).length (l ++ marks) by rw [hll]; exact hr0) (by omega)
    rwa [List.take_left' rfl] at this
  have hs := same_eq (l := l) (m := l) (k := l.length + 1) (by omega) (by omega)
  rw [decide_eq_true rfl] at hs
  have HS := Aside0.mk (vivariumlaw17_same.calls (l.length + 1) A0 c0 l A1 c1 l true w hp (by omega) hr1 hc1 hs)
  have HR := Aside0.mk hr0
  clear hp hr0 hr1 hs hll
  have hu25 := Try.underlying25
  go_enter Try.func17, Try.ntmps17
  go_wp2_with fail
  refine HS.out.mono ?_
  rintro e w1 ⟨rfl, hb1⟩
  obtain ⟨nd, rfl⟩ := hb1
  have HB1 := Aside0.mk (show Below w.heap.size w (w.drewN nd) from pw_below_drewN (Below.refl _ _) nd)
  clear HS
  go_wp2
  go_loopw [7] (fun i wr => ∃ k : Nat, k ≤ 70 ∧ i = .int .i64 k ∧ Below w.heap.size w wr) (fun i _ => 70 - (intOf i).toNat)
  case atStart => exact ⟨0, Nat.zero_le _, rfl, HB1.out⟩
  case round =>
    clear HB1
    obtain ⟨k, hk, rfl, hB⟩ := hrel
    have HB := Aside0.mk hB
    clear hB
    obtain ⟨wo, rfl⟩ : ∃ wo : World, wo = wr := ⟨_, rfl⟩
    by_cases hlt : k < 70
    · obtain ⟨ad, hA, e0, e1⟩ := at_T25 HR.out ((l.length : Int) + (k : Int)) (by omega) (by omega)
      subst hA
      rw [rd_marks l k hlt] at e0 e1
      rw [show ((l.length : Int) + (k : Int)).toNat = l.length + k by omega] at e0 e1
      have d0 := pw_cell_below HB.out e0
      have d1 := pw_cell_below HB.out e1
      clear e0 e1
      go_wp2
      go_roundw
      case rel => exact ⟨k + 1, by omega, by go_num, HB.out⟩
      case measure => simp [intOf]; omega
    · go_wp2
      go_ret
      exact ⟨rfl, HB.out⟩
end Go.Proofs.Ytomogkhdfaiekaa.PLin
