/-
  linear's laws: the answers that are fixed; lists compared.
-/
import Derived.Test.YtomogkhdfaiekaaHMath
import Derived.Test.YtomogkhdfaiekaaPLinx14
namespace Go.Proofs.Ytomogkhdfaiekaa.PLin
open Go.Proofs.Ytomogkhdfaiekaa.HW Go.Proofs.Ytomogkhdfaiekaa.HSet Go.RowKit Go.Proofs.YtomogkhdfaiekaaW.PrintWords Go.Proofs.YtomogkhdfaiekaaW.PrintLast Go.Proofs.YtomogkhdfaiekaaW.PrintMore
set_option linter.unusedVariables false
set_option linter.unusedSimpArgs false

theorem sortP_eq {l t : List S25} (h1 : l.Perm t) (h2 : t.Pairwise (fun a b => leP a b = true)) : sortP l = t := sorted_unique _ _ ((sortP_perm l).trans h1) (sortP_sorted l) h2

theorem rd_drop (l : List S25) (k : Nat) (h : k < l.length) : l.drop k = rd_T25 l k :: l.drop (k + 1) := by
  rw [List.drop_eq_getElem_cons h]
  unfold rd_T25
  simp [h]

theorem same_loop (l m : List S25) (hlm : l.length = m.length) (hb : l.length < 9223372036854775807) : ∀ (k i : Nat), i ≤ l.length → l.length < k + i → vivariumlaw17_same.l0 k l m (i : Int) = some (decide (l.drop i = m.drop i))
  | 0, i, h1, h2 => by omega
  | k + 1, i, h1, h2 => by
    unfold vivariumlaw17_same.l0
    by_cases c : i < l.length
    · rw [if_pos (by omega), if_pos (by omega), if_pos (by omega)]
      have ih := same_loop l m hlm hb k (i + 1) (by omega) (by omega)
      rw [rd_drop l i c, rd_drop m i (by omega)]
      rw [w64 (a := (i : Int) + 1) (by omega) (by omega), show (i : Int) + 1 = ((i + 1 : Nat) : Int) from by omega, ih]
      generalize rd_T25 l i = p; generalize rd_T25 m i = q
      by_cases e : p = q
      · subst e; simp
      · rw [S25.ext_iff'] at e
        rw [if_pos (by
          by_cases e0 : p.f0 = q.f0
          · simp [e0]; exact fun h => e ⟨e0, h⟩
          · simp [e0])]
        rw [Option.some.injEq, eq_comm, decide_eq_false_iff_not, List.cons.injEq]
        exact fun h => e ((S25.ext_iff' _ _).1 h.1)
    · rw [if_neg (by omega)]
      rw [List.drop_eq_nil_of_le (by omega), List.drop_eq_nil_of_le (by omega)]; simp

/-- same: are two lists one? -/
theorem same_eq {l m : List S25} (hb : l.length < 9223372036854775807) {k : Nat} (hk : l.length < k) : vivariumlaw17_same.f k l m = some (decide (l = m)) := by
  unfold vivariumlaw17_same.f
  by_cases h : l.length = m.length
  · rw [if_pos (by omega)]
    have := same_loop l m h hb k 0 (by omega) (by omega)
    simpa using this
  · rw [if_neg (by omega), Option.some.injEq, eq_comm, decide_eq_false_iff_not]
    exact fun e => h (by rw [e])

theorem torus5 : linear_torus.f 8 2 5 1 0 0 = some 0 := by decide +kernel
theorem check5 : linear_Check.f [⟨0, 0⟩, ⟨1, 0⟩] = some 0 := by decide +kernel
theorem jump5 : linear_Jump.f 2 5 1 0 0 [⟨0, 0⟩, ⟨1, 0⟩] [⟨0, 0⟩] 3 = some ([⟨-2, 0⟩, ⟨-1, 0⟩, ⟨0, 0⟩, ⟨2, 0⟩], 0) := by
  have e1 : sortP (norm (nearL 5 1 0 0 [⟨0, 0⟩, ⟨1, 0⟩])) = [⟨0, 0⟩, ⟨1, 0⟩] := sortP_eq (by decide +kernel) (by decide +kernel)
  have e2 : sortP (norm (doubledL 5 1 0 0 [⟨0, 0⟩, ⟨1, 0⟩])) = [⟨0, 0⟩, ⟨2, 0⟩] := sortP_eq (by decide +kernel) (by decide +kernel)
  have e3 : jumpN 5 1 0 0 3 [⟨0, 0⟩, ⟨1, 0⟩] [⟨0, 0⟩] = norm (movedL 5 1 0 0 [⟨0, 0⟩, ⟨2, 0⟩] (norm (movedL 5 1 0 0 [⟨0, 0⟩, ⟨1, 0⟩] [⟨0, 0⟩]))) := by
    rw [jumpN, dif_neg (by omega), if_pos (by omega), e2, show 3 / 2 = 1 from rfl, jumpN, dif_neg (by omega), if_pos (by omega), show 1 / 2 = 0 from rfl, jumpN, dif_pos rfl]
  unfold linear_Jump.f
  rw [torus5]
  simp only [Option.bind_some, if_true]
  rw [check5]
  simp only [Option.bind_some, if_true]
  rw [if_pos (by decide +kernel), if_pos (by decide +kernel)]
  unfold jumpE
  rw [if_neg (by omega), if_neg (by omega), if_neg (by omega), e1, show (3 : Int).toNat = 3 from rfl, e3]
  rw [sortP_eq (t := [⟨-2, 0⟩, ⟨-1, 0⟩, ⟨0, 0⟩, ⟨2, 0⟩]) (by decide +kernel) (by decide +kernel)]
theorem times5 : linear_Times.f [⟨0, 0⟩, ⟨1, 0⟩] [⟨0, 0⟩, ⟨1, 0⟩] = some ([⟨0, 0⟩, ⟨2, 0⟩], 0) := by
  unfold linear_Times.f
  rw [check5]
  simp only [Option.bind_some, if_true]
  rw [sortP_eq (t := [⟨0, 0⟩, ⟨2, 0⟩]) (by decide +kernel) (by decide +kernel), if_pos (by decide +kernel)]
theorem line5 : linear_Line.f [0, 1] 3 (-2) = some (true, 0) := by
  have e3 : lineN [0, 1] 3 [⟨-2, 0⟩] = halves (norm (nextL [0, 1] 1 (halves (norm (nextL [0, 1] 3 [⟨-2, 0⟩]))))) := by
    rw [lineN, dif_neg (by omega), show 3 / 2 = 1 from rfl, lineN, dif_neg (by omega), show 1 / 2 = 0 from rfl, lineN, dif_pos rfl]
  unfold linear_Line.f lineA
  rw [if_pos (by decide +kernel), if_neg (by omega), if_neg (by omega), if_neg (by omega), show (3 : Int).toNat = 3 from rfl, e3]
  decide +kernel

/-- alive: yes. -/
theorem alive_true {k : Nat} (hk : 5 ≤ k) : vivariumlaw17_alive.f k = some true := by
  unfold vivariumlaw17_alive.f vivariumlaw17_five.f linear_Power.f
  simp only [Option.bind_some]
  rw [jump5]
  simp only [Option.bind_some]
  rw [line5, times5]
  simp only [Option.bind_some, if_true]
  rw [same_eq (by decide) (by simp only [List.length_cons, List.length_nil]; omega), same_eq (by decide) (by simp only [List.length_cons, List.length_nil]; omega)]
  simp
end Go.Proofs.Ytomogkhdfaiekaa.PLin
