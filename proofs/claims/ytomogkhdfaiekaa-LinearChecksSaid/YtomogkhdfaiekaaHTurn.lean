/-
  linear: the sets' own calls: turn, of, list.
-/
import Derived.Test.YtomogkhdfaiekaaHKeys
import Derived.Deep.LoopGhost
namespace Go.Proofs.Ytomogkhdfaiekaa.PLin
open Go.Proofs.Ytomogkhdfaiekaa.HW Go.Proofs.Ytomogkhdfaiekaa.HSet Go.RowKit Go.Proofs.YtomogkhdfaiekaaW.PrintWords Go.Proofs.YtomogkhdfaiekaaW.PrintLast Go.Proofs.YtomogkhdfaiekaaW.PrintMore
set_option linter.unusedVariables false
set_option linter.unusedSimpArgs false

/-- A set of places in memory. -/
abbrev PSet (w : World) (b : Nat) (S : List S25) : Prop := SetAt Try.prog 25 okP klP w b S

/-- What is there goes, what is not comes. -/
def tog (S : List S25) (p : S25) : List S25 := if p ∈ S then S.erase p else S ++ [p]

set_option maxHeartbeats 1000000 in
set_option maxRecDepth 100000 in
theorem linear_set_turn.calls (b : Nat) (S : List S25) (p : S25) (hp : okP p) (w : World) (h : PSet w b S) (hn : S.length < maxLen) :
    Calls Try.prog 45 #[.map (some b), mkP p] w fun e w' => e = .returned (.tuple #[]) ∧ PSet w' b (tog S p) ∧ w.grownBy w' (some b) := by
  have hlt := h.lt
  have hz := zero89
  have hmem : decide (p ∈ S) = true ∨ decide (p ∈ S) = false := by cases decide (p ∈ S) <;> simp
  unfold mkP
  rcases hmem with hm | hm
  · have hS : tog S p = S.erase p := by unfold tog; rw [if_pos (of_decide_eq_true hm)]
    rw [hS]; clear hS
    go_enter Try.func45, Try.ntmps45
    go_wp2_with (first | (at_lookup; refine wp_lookup _ rfl _ _ 73 rfl 89 C25 Try.underlying73 (hz _) rfl (h.alloc _) p rfl hp ?_) | (at_delete; refine wp_delete _ rfl _ _ 73 rfl 89 C25 Try.underlying73 rfl ((h.alloc _).alloc _) p rfl hp ?_; intro w1 h1 hg1))
    refine bodyPost_ret (results_none rfl _ _ _) rfl ⟨rfl, h1, ?_⟩
    exact ((World.grownBy_alloc _ _ _).trans (World.grownBy_alloc _ _ _)).trans hg1
  · have hS : tog S p = ins S p := by unfold tog ins; rw [if_neg (of_decide_eq_false hm), if_neg (of_decide_eq_false hm)]
    rw [hS]; clear hS
    go_enter Try.func45, Try.ntmps45
    go_wp2_with (first | (at_lookup; refine wp_lookup _ rfl _ _ 73 rfl 89 C25 Try.underlying73 (hz _) rfl (h.alloc _) p rfl hp ?_) | (at_mapUpdate; refine wp_insert _ rfl _ _ _ 73 rfl 89 C25 Try.underlying73 rfl ((h.alloc _).alloc _) hn p rfl rfl hp ?_; intro w1 h1 hg1))
    refine bodyPost_end (results_none rfl _ _ _) rfl ⟨rfl, h1, ?_⟩
    exact ((World.grownBy_alloc _ _ _).trans (World.grownBy_alloc _ _ _)).trans hg1

theorem insAll_snoc (l : List S25) (k : Nat) (h : k < l.length) (i : Int) (hi : i = k) : (l.take (k + 1)).foldl ins [] = ins ((l.take k).foldl ins []) (rd_T25 l i) := by
  rw [List.take_succ_eq_append_getElem h, List.foldl_append]
  unfold rd_T25
  subst hi
  simp [h]
theorem insAll_len (l : List S25) : ∀ S : List S25, (l.foldl ins S).length ≤ S.length + l.length := by
  induction l with
  | nil => intro S; simp
  | cons a l ih => intro S; simp only [List.foldl_cons, List.length_cons]; have := ih (ins S a); have := length_ins_le S a; omega
theorem rd_mem (l : List S25) (k : Nat) (h : k < l.length) (i : Int) (hi : i = k) : rd_T25 l i ∈ l := by
  subst hi
  unfold rd_T25
  simp [h]

theorem beq_cast (a b : Nat) : ((a : Int) == (b : Int)) = decide (a = b) := by
  rw [Bool.eq_iff_iff, beq_iff_eq, decide_eq_true_eq]; omega
theorem ret_bool2 {v : Value} {a b : Bool} (h : a = b) : Ending.returned (.tuple #[v, .bool a]) = .returned (.tuple #[v, .bool b]) := by rw [h]

theorem below_turn {w0 w w' : World} {b : Nat} (h : Below w0.heap.size w0 w) (hs : w0.heap.size ≤ w.heap.size) (hb : w0.heap.size ≤ b) (hg : w.grownBy w' (some b)) : Below w0.heap.size w0 w' :=
  h.grown hg hs (fun k e => by cases e; exact hb)

set_option maxHeartbeats 1000000 in
set_option maxRecDepth 100000 in
theorem linear_of.calls (A0 : Option Addr) (c0 : Nat) (l0 : List S25) (w : World) (hr0 : Kd.C k25 w A0 l0.length l0) (hc0 : l0.length ≤ c0) (hok : ∀ p ∈ l0, okP p) :
    Calls Try.prog 41 #[.slice A0 l0.length c0] w fun e w' => e = .returned (.tuple #[.map (some w.heap.size), .bool (decide ((l0.foldl ins []).length = l0.length))]) ∧ PSet w' w.heap.size (l0.foldl ins []) ∧ Below w.heap.size w w' := by
  have hmax := Kd.C_max hr0
  have hmm := @run_makeMap Try.prog
  go_enter Try.func41, Try.ntmps41
  go_wp2
  go_loopw [10] (fun i wr => ∃ k : Nat, k ≤ l0.length ∧ i = .int .i64 k ∧ PSet wr w.heap.size ((l0.take k).foldl ins []) ∧ Below w.heap.size w wr) (fun i _ => l0.length - (intOf i).toNat)
  case atStart => exact ⟨0, Nat.zero_le _, rfl, SetAt.made w, below_alloc (Below.refl _ _) _⟩
  case round =>
    obtain ⟨k, hk, rfl, hs, hB⟩ := hrel
    have hBs := Aside0.mk hB; clear hB
    by_cases hlt : k < l0.length
    · obtain ⟨ad, hA, e0, e1⟩ := at_T25 hr0 (k : Int) (by omega) (by omega)
      subst hA
      have d0 := pw_cell_below hBs.out e0
      have d1 := pw_cell_below hBs.out e1
      clear e0 e1
      rw [Int.toNat_natCast] at d0 d1
      have hlen : ((l0.take k).foldl ins []).length < maxLen := by
        have := insAll_len (l0.take k) []
        simp only [List.length_nil, List.length_take] at this
        unfold maxLen; omega
      have hsn := Aside0.mk (insAll_snoc l0 k hlt k rfl)
      have hpk := Aside0.mk (hok _ (rd_mem l0 k hlt k rfl))
      generalize rd_T25 l0 (k : Int) = p at *
      go_wp2_with (at_mapUpdate; refine wp_insert _ rfl _ _ _ 73 rfl 89 C25 Try.underlying73 rfl (hs.alloc _) hlen p rfl rfl hpk.out ?_; intro w1 h1 hg1)
      go_roundw
      case rel => exact ⟨k + 1, by omega, by go_num, hsn.out ▸ h1, below_turn (below_alloc hBs.out _) (by have := hBs.out.size; simp; omega) (Nat.le_refl _) hg1⟩
      case measure => simp [intOf]; omega
    · have hkl : l0.take k = l0 := List.take_of_length_le (by omega)
      rw [hkl] at hs
      clear hkl
      go_wp2_with (at_len; refine wp_len _ rfl _ 73 rfl 89 Try.underlying73 rfl hs ?_)
      go_ret2
      exact ⟨ret_bool2 (beq_cast _ _), hs, hBs.out⟩
end Go.Proofs.Ytomogkhdfaiekaa.PLin
