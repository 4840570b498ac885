/-
  LinearChecks: the document's Check is the program's; the law's walk.
-/
import Derived.Test.YtomogkhdfaiekaaHLent
import Derived.Test.YtomogkhdfaiekaaPLinx16
namespace Go.Proofs.Ytomogkhdfaiekaa.PLin
open Go.Proofs.Ytomogkhdfaiekaa.HW Go.Proofs.Ytomogkhdfaiekaa.HSet Go.RowKit Go.Proofs.YtomogkhdfaiekaaW.PrintWords Go.Proofs.YtomogkhdfaiekaaW.PrintLast Go.Proofs.YtomogkhdfaiekaaW.PrintMore
set_option linter.unusedVariables false
set_option linter.unusedSimpArgs false

theorem evs {α : Type} {g f : Nat → Option α} {r : α} (h : ∀ k, g (k + 1) = f k) (hf : Ev f r) : Ev g r := by
  obtain ⟨K, hK⟩ := hf
  refine ⟨K + 1, fun k hk => ?_⟩
  obtain ⟨j, rfl⟩ : ∃ j, k = j + 1 := ⟨k - 1, by omega⟩
  rw [h]; exact hK j (by omega)
theorem ev_now {α : Type} {g : Nat → Option α} {r : α} (h : ∀ k, g (k + 1) = some r) : Ev g r := evs (f := fun _ => some r) h (Ev.now r)

theorem near_ref (a : Int) : vivariumref17_near.f a = some (nearN a) := by
  unfold vivariumref17_near.f nearN
  by_cases c : a ≥ -1099511627776
  · rw [if_pos c, decide_eq_true (show -1099511627776 ≤ a from c), Bool.true_and]
  · rw [if_neg c, decide_eq_false (show ¬ -1099511627776 ≤ a from c), Bool.false_and]

theorem eq_parts (p q : S25) : (p.f0 == q.f0 && p.f1 == q.f1) = true ↔ p = q := by
  rw [Bool.and_eq_true, beq_iff_eq, beq_iff_eq, S25.ext_iff']

section
variable (l : List S25) (hl : l.length < 9223372036854775807)
theorem twice_l1 (i : Nat) (hi : i < l.length) (r : Bool) (hK : rd_T25 l (i : Int) ∉ l.take i → Ev (fun k => vivariumref17_twice.l0 k l ((i : Int) + 1)) r) (hl : l.length < 9223372036854775807) :
    ∀ m j : Nat, m + j = i → rd_T25 l (i : Int) ∉ l.take j → Ev (fun k => vivariumref17_twice.l1 k l (i : Int) (j : Int)) (if rd_T25 l (i : Int) ∈ l.take i then true else r)
  | 0, j, h, hj => by
    obtain rfl : j = i := by omega
    rw [if_neg hj]
    refine evs (fun k => ?_) (hK hj)
    rw [vivariumref17_twice.l1, if_neg (by omega), w64 (by omega) (by omega)]
  | m + 1, j, h, hj => by
    by_cases c : rd_T25 l (i : Int) = rd_T25 l (j : Int)
    · have hm : rd_T25 l (i : Int) ∈ l.take i := by
        rw [c]
        have h1 : rd_T25 l (j : Int) ∈ l.take (j + 1) := by rw [take_succ_rd l j (by omega)]; simp
        exact (List.take_sublist_take_left (by omega)).subset h1
      rw [if_pos hm]
      refine ev_now fun k => ?_
      rw [vivariumref17_twice.l1, if_pos (by omega), if_pos (by omega), if_pos (by omega), if_pos (by omega), if_pos (by omega), if_pos ((eq_parts _ _).2 c)]
    · have hj2 : rd_T25 l (i : Int) ∉ l.take (j + 1) := by
        rw [take_succ_rd l j (by omega), List.mem_append, List.mem_singleton]
        exact fun h => h.elim hj c
      have ih := twice_l1 i hi r hK hl m (j + 1) (by omega) hj2
      refine evs (f := fun k => vivariumref17_twice.l1 k l (i : Int) ((j + 1 : Nat) : Int)) (fun k => ?_) ih
      rw [vivariumref17_twice.l1, if_pos (by omega), if_pos (by omega), if_pos (by omega), if_pos (by omega), if_pos (by omega), if_neg (fun h => c ((eq_parts _ _).1 h)), w64 (by omega) (by omega)]; rfl

theorem twice_l0 (hl : l.length < 9223372036854775807) : ∀ m i : Nat, m + i = l.length → (l.take i).Nodup → Ev (fun k => vivariumref17_twice.l0 k l (i : Int)) (decide (¬ l.Nodup))
  | 0, i, h, hn => by
    rw [List.take_of_length_le (by omega)] at hn
    rw [decide_eq_false (fun h => h hn)]
    refine ev_now fun k => ?_
    rw [vivariumref17_twice.l0, if_neg (by omega)]
  | m + 1, i, h, hn => by
    refine evs (f := fun k => vivariumref17_twice.l1 k l (i : Int) ((0 : Nat) : Int)) (fun k => ?_) ?_
    · rw [vivariumref17_twice.l0, if_pos (by omega)]; rfl
    have key := twice_l1 l i (by omega) (decide (¬ l.Nodup)) (fun c => by
      have h2 : (l.take (i + 1)).Nodup := by
        rw [take_succ_rd l i (by omega)]
        exact List.nodup_append.2 ⟨hn, by simp, fun x hx y hy e => by simp at hy; subst hy; subst e; exact c hx⟩
      have ih := twice_l0 hl m (i + 1) (by omega) h2
      rwa [show ((i + 1 : Nat) : Int) = (i : Int) + 1 by omega] at ih) hl i 0 (by omega) (by simp)
    by_cases c : rd_T25 l (i : Int) ∈ l.take i
    · have hno : ¬ l.Nodup := fun hh => by
        have := take_succ_rd l i (by omega)
        have h2 : (l.take (i + 1)).Nodup := List.Nodup.sublist (List.take_sublist _ _) hh
        rw [this] at h2
        exact (List.nodup_append.1 h2).2.2 _ c _ (by simp) rfl
      rw [decide_eq_true hno]
      rwa [if_pos c] at key
    · rwa [if_neg c] at key

theorem ev_twice (hl : l.length < 9223372036854775807) : Ev (fun k => vivariumref17_twice.f k l) (decide (¬ l.Nodup)) := twice_l0 l hl l.length 0 (by omega) (by simp)

theorem check_l0 (hl : l.length < 9223372036854775807) : ∀ m i : Nat, m + i = l.length → (l.take i).all nearP = true → Ev (fun k => vivariumref17_Check.l0 k l (i : Int)) (if l.all nearP = true then (if l.Nodup then 0 else 170) else 5)
  | 0, i, h, ha => by
    rw [List.take_of_length_le (by omega)] at ha
    rw [if_pos ha]
    obtain ⟨K, hK⟩ := ev_twice l hl
    refine ⟨K + 1, fun k hk => ?_⟩
    obtain ⟨j, rfl⟩ : ∃ j, k = j + 1 := ⟨k - 1, by omega⟩
    show vivariumref17_Check.l0 (j + 1) l (i : Int) = _
    rw [vivariumref17_Check.l0, if_neg (by omega), show vivariumref17_twice.f j l = _ from hK j (by omega)]
    by_cases hn : l.Nodup
    · simp [hn]
    · simp [hn]
  | m + 1, i, h, ha => by
    have hts := all_take_succ l i (by omega)
    by_cases c : nearP (rd_T25 l (i : Int)) = true
    · have c' := c
      unfold nearP at c'
      rw [Bool.and_eq_true] at c'
      refine evs (f := fun k => vivariumref17_Check.l0 k l ((i + 1 : Nat) : Int)) (fun k => ?_) (check_l0 hl m (i + 1) (by omega) (by rw [hts, ha, Bool.true_and]; exact c))
      rw [vivariumref17_Check.l0, if_pos (by omega), if_pos (by omega), near_ref, near_ref, c'.1, c'.2]
      simp only [Option.bind_some, if_true]
      rw [w64 (by omega) (by omega)]; rfl
    · have hno : ¬ l.all nearP = true := fun hall => c (List.all_eq_true.1 hall _ (rd_mem l i (by omega) i rfl))
      rw [if_neg hno]
      refine ev_now fun k => ?_
      rw [vivariumref17_Check.l0, if_pos (by omega), if_pos (by omega), near_ref, near_ref]
      unfold nearP at c
      rw [Bool.and_eq_true] at c
      simp only [Option.bind_some]
      by_cases c1 : nearN (rd_T25 l (i : Int)).f0 = true
      · rw [if_pos c1, if_neg (fun h => c ⟨c1, h⟩)]
      · rw [if_neg c1]

/-- The document's Check. -/
theorem ev_Check (hl : l.length < 9223372036854775807) : ∃ e, linear_Check.f l = some e ∧ Ev (fun k => vivariumref17_Check.f k l) e := by
  unfold linear_Check.f
  by_cases c : l.length > 64
  · rw [if_pos c]
    refine ⟨6, rfl, 0, fun k _ => ?_⟩
    show vivariumref17_Check.f k l = _
    unfold vivariumref17_Check.f
    rw [if_pos (by omega)]
  · rw [if_neg c]
    refine ⟨if l.all nearP = true then (if l.Nodup then 0 else 170) else 5, by by_cases a : l.all nearP = true <;> by_cases b : l.Nodup <;> simp only [a, b, if_true, if_false] <;> rfl, ?_⟩
    obtain ⟨K, hK⟩ := check_l0 l hl l.length 0 (by omega) (by simp)
    refine ⟨K, fun k hk => ?_⟩
    show vivariumref17_Check.f k l = _
    unfold vivariumref17_Check.f
    rw [if_neg (by omega)]
    exact hK k hk
end

end Go.Proofs.Ytomogkhdfaiekaa.PLin
