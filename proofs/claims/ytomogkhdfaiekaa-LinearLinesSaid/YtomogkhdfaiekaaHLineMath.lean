/-
  A line without end: what lives behind so many generations of one cell, and the way that Line finds it; no walk.
-/
import Derived.Test.YtomogkhdfaiekaaHMath
import Derived.Test.YtomogkhdfaiekaaHLine
namespace Go.Proofs.Ytomogkhdfaiekaa.PLin
open Go.Proofs.Ytomogkhdfaiekaa.HW Go.Proofs.Ytomogkhdfaiekaa.HSet Go.RowKit Go.Proofs.YtomogkhdfaiekaaW.PrintWords Go.Proofs.YtomogkhdfaiekaaW.PrintLast Go.Proofs.YtomogkhdfaiekaaW.PrintMore
set_option linter.unusedVariables false
set_option linter.unusedSimpArgs false

/-- One generation of a test on the line. -/
def stepF (D : List Int) (g : Int → Bool) (x : Int) : Bool := par D fun d => g (x + d)
def itF (D : List Int) : Nat → (Int → Bool) → Int → Bool
  | 0, g => g
  | n + 1, g => stepF D (itF D n g)
def unitF (x : Int) : Bool := decide (x = 0)

theorem itF_add (D : List Int) (g : Int → Bool) : ∀ m n, itF D (m + n) g = itF D m (itF D n g)
  | 0, n => by rw [Nat.zero_add]; rfl
  | m + 1, n => by rw [Nat.succ_add]; show stepF D (itF D (m + n) g) = stepF D (itF D m (itF D n g)); rw [itF_add D g m n]
theorem stepF_twice (D : List Int) (g : Int → Bool) : stepF D (stepF D g) = stepF (D.map fun d => 2 * d) g := by
  funext x
  unfold stepF
  rw [par_map, par_diag D (fun d e => g (x + d + e)) (fun a b => by rw [show x + a + b = x + b + a by omega])]
  exact par_congr fun d _ => by rw [show x + d + d = x + 2 * d by omega]
theorem itF_double (D : List Int) (g : Int → Bool) : ∀ m, itF D (2 * m) g = itF (D.map fun d => 2 * d) m g
  | 0 => rfl
  | m + 1 => by
    show stepF D (stepF D (itF D (2 * m) g)) = stepF _ (itF _ m g)
    rw [stepF_twice, itF_double D g m]
/-- A test that sees even places alone. -/
def wideF (g : Int → Bool) (x : Int) : Bool := decide (x % 2 = 0) && g (x / 2)
theorem stepF_wide (D : List Int) (g : Int → Bool) : stepF (D.map fun d => 2 * d) (wideF g) = wideF (stepF D g) := by
  funext x
  unfold stepF wideF
  rw [par_map]
  by_cases h : x % 2 = 0
  · rw [decide_eq_true h, Bool.true_and]
    exact par_congr fun d _ => by rw [decide_eq_true (show (x + 2 * d) % 2 = 0 by omega), show (x + 2 * d) / 2 = x / 2 + d by omega, Bool.true_and]
  · rw [decide_eq_false h, Bool.false_and]
    rw [par_congr (g := fun _ => false) (fun d _ => by rw [decide_eq_false (show ¬ (x + 2 * d) % 2 = 0 by omega), Bool.false_and]), par_zero]
theorem itF_wide (D : List Int) (g : Int → Bool) : ∀ m, itF (D.map fun d => 2 * d) m (wideF g) = wideF (itF D m g)
  | 0 => rfl
  | m + 1 => by show stepF _ (itF _ m _) = wideF (stepF D (itF D m g)); rw [itF_wide D g m, stepF_wide]
theorem unit_wide : unitF = wideF unitF := by
  funext x
  unfold wideF unitF
  rw [Bool.eq_iff_iff, Bool.and_eq_true, decide_eq_true_eq, decide_eq_true_eq, decide_eq_true_eq]; omega
theorem itF_even (D : List Int) (m : Nat) : itF D (2 * m) unitF = wideF (itF D m unitF) := by
  rw [itF_double]
  conv => lhs; rw [unit_wide]
  exact itF_wide D unitF m

theorem par_shiftL (l : List Int) (p : S25) (g : Int → Bool) : par (shiftL l p) (fun q => g q.f0) = stepF l g p.f0 := by
  unfold shiftL stepF
  rw [par_map]
theorem par_halves (S : List S25) (g : Int → Bool) : par (halves S) (fun q => g q.f0) = par S fun q => wideF g q.f0 := by
  unfold halves
  rw [par_map, par_filter]
  rfl

/-- WHAT LINE FINDS: an odd number of what there is lives behind n generations. -/
theorem par_lineN (l : List Int) (n : Nat) : ∀ C : List S25, par (lineN l n C) (fun p => unitF p.f0) = par C fun p => itF l n unitF p.f0 := by
  induction n using Nat.strongRecOn with
  | _ n ih =>
    intro C
    rw [lineN]
    by_cases h0 : n = 0
    · rw [dif_pos h0]; subst h0; rfl
    · rw [dif_neg h0, ih (n / 2) (by omega), par_halves, ← itF_even, par_norm]
      unfold nextL
      by_cases h1 : n % 2 = 1
      · rw [if_pos h1, par_flatMap]
        refine par_congr fun p _ => ?_
        rw [par_shiftL]
        have e : n = 2 * (n / 2) + 1 := by omega
        exact (congrArg (fun k => itF l k unitF p.f0) e).symm
      · rw [if_neg h1]
        have e : 2 * (n / 2) = n := by omega
        rw [e]

theorem lineN_ok {l : List Int} (hl : l.all inLine = true) (n : Nat) : ∀ (C : List S25) (c : Int), C.Nodup → Win c 64 C → (lineN l n C).Nodup ∧ ∀ p ∈ lineN l n C, p.f1 = 0 := by
  induction n using Nat.strongRecOn with
  | _ n ih =>
    intro C c h1 h2
    rw [lineN]
    by_cases h0 : n = 0
    · rw [dif_pos h0]; exact ⟨h1, fun p hp => (h2 p hp).2⟩
    · rw [dif_neg h0]
      have hw := win_norm (win_next hl n h2)
      exact ih (n / 2) (by omega) _ (c / 2) (halves_nodup (norm_nodup _) (fun q hq => (hw q hq).2)) (win_halves hw)

/-- Line's answer is what lives there. -/
theorem line_lives {l : List Int} (hl : l.all inLine = true) (n : Nat) (x : Int) : decide ((⟨0, 0⟩ : S25) ∈ lineN l n [⟨x, 0⟩]) = itF l n unitF x := by
  obtain ⟨h1, h2⟩ := lineN_ok hl n [⟨x, 0⟩] x (by simp) (by intro p hp; rw [List.mem_singleton] at hp; subst hp; exact ⟨⟨by simp only; omega, by simp only; omega⟩, rfl⟩)
  have h3 := par_lineN l n [⟨x, 0⟩]
  rw [par_cons, par_nil, Bool.xor_false] at h3
  rw [← h3, Bool.eq_iff_iff, decide_eq_true_eq, mem_of_par h1]
  rw [par_congr (f := fun p : S25 => decide (p = ⟨0, 0⟩)) (g := fun p => unitF p.f0) (fun p hp => by
    unfold unitF
    rw [Bool.eq_iff_iff, decide_eq_true_eq, decide_eq_true_eq, S25.ext_iff']
    have := h2 p hp
    simp only; omega)]

/-- Nothing lives farther away than the offsets reach. -/
theorem itF_far {D : List Int} {r : Int} (hr : ∀ d ∈ D, -r ≤ d ∧ d ≤ r) : ∀ (n : Nat) (x : Int), (x < -(r * n) ∨ r * n < x) → itF D n unitF x = false
  | 0, x, h => by
    show decide (x = 0) = false
    rw [decide_eq_false_iff_not]
    rw [show ((0 : Nat) : Int) = 0 from rfl, Int.mul_zero] at h; omega
  | n + 1, x, h => by
    show par D (fun d => itF D n unitF (x + d)) = false
    rw [par_congr (g := fun _ => false) (fun d hd => itF_far hr n (x + d) (by
      have := hr d hd
      rw [show ((n + 1 : Nat) : Int) = n + 1 by omega, Int.mul_add, Int.mul_one] at h
      omega)), par_zero]
end Go.Proofs.Ytomogkhdfaiekaa.PLin
