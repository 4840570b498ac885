/-
  The document's Times is the program's; no walk.
-/
import Derived.Test.YtomogkhdfaiekaaHTurned
import Derived.Test.YtomogkhdfaiekaaHChecks
import Derived.Test.YtomogkhdfaiekaaPLinx19
namespace Go.Proofs.Ytomogkhdfaiekaa.PLin
open Go.Proofs.Ytomogkhdfaiekaa.HW Go.Proofs.Ytomogkhdfaiekaa.HSet Go.RowKit Go.Proofs.YtomogkhdfaiekaaW.PrintWords Go.Proofs.YtomogkhdfaiekaaW.PrintLast Go.Proofs.YtomogkhdfaiekaaW.PrintMore
set_option linter.unusedVariables false
set_option linter.unusedSimpArgs false

theorem ft_len (m : List S25) : ∀ out : List S25, (m.foldl turnedL out).length ≤ out.length + m.length := by
  induction m with
  | nil => intro out; simp
  | cons a m ih => intro out; simp only [List.foldl_cons, List.length_cons]; have := ih (turnedL out a); have := turnedL_len out a; omega
theorem ft_par (m : List S25) (g : S25 → Bool) : ∀ out : List S25, par (m.foldl turnedL out) g = xor (par out g) (par m g) := by
  induction m with
  | nil => intro out; simp
  | cons a m ih => intro out; rw [List.foldl_cons, ih, par_turnedL, par_cons, Bool.xor_assoc]
theorem ft_sorted (m : List S25) : ∀ out : List S25, out.Pairwise (fun a b => ltP a b = true) → (m.foldl turnedL out).Pairwise (fun a b => ltP a b = true) := by
  induction m with
  | nil => intro out h; exact h
  | cons a m ih => intro out h; exact ih _ (turnedL_sorted out a h)
theorem ft_eq (m : List S25) : m.foldl turnedL [] = sortP (norm m) := by
  have h1 := ft_sorted m [] List.Pairwise.nil
  refine sorted_unique _ _ ?_ (sorted_le h1) (sortP_sorted _)
  refine List.Perm.trans ?_ (sortP_perm _).symm
  refine (List.perm_ext_iff_of_nodup (sorted_nodup h1) (norm_nodup _)).2 fun q => ?_
  rw [mem_of_par (sorted_nodup h1) q, mem_of_par (norm_nodup _) q, ft_par, par_norm]
  simp

section
variable (a b : List S25)
theorem reftimes_l2 (l : List S25) (hl : l.length < 9223372036854775807) : ∀ m i : Nat, m + i = l.length → (l.take i).all nearP = true → Ev (fun k => vivariumref17_Times.l2 k l (i : Int)) (if l.all nearP = true then (l, 0) else ([], 5))
  | 0, i, h, ha => by
    rw [List.take_of_length_le (by omega)] at ha
    rw [if_pos ha]
    refine evT_now fun k => ?_
    rw [vivariumref17_Times.l2, if_neg (by omega)]
  | m + 1, i, h, ha => by
    have hts := all_take_succ l i (by omega)
    by_cases c : nearP (rd_T25 l (i : Int)) = true
    · have c' := c
      unfold nearP at c'
      rw [Bool.and_eq_true] at c'
      refine evT (fun k => ?_) (reftimes_l2 l hl m (i + 1) (by omega) (by rw [hts, ha, Bool.true_and]; exact c))
      rw [vivariumref17_Times.l2, if_pos (by omega), if_pos (by omega), near_ref, near_ref, c'.1, c'.2]
      simp only [Option.bind_some, if_true]
      rw [w64 (by omega) (by omega)]; rfl
    · have hno : ¬ l.all nearP = true := fun hall => c (List.all_eq_true.1 hall _ (rd_mem l i (by omega) i rfl))
      rw [if_neg hno]
      refine evT_now fun k => ?_
      rw [vivariumref17_Times.l2, if_pos (by omega), if_pos (by omega), near_ref, near_ref]
      unfold nearP at c
      rw [Bool.and_eq_true] at c
      simp only [Option.bind_some]
      by_cases c1 : nearN (rd_T25 l (i : Int)).f0 = true
      · rw [if_pos c1, if_neg (fun h => c ⟨c1, h⟩)]
      · rw [if_neg c1]

variable (ha : ∀ p ∈ a, nearP p = true) (hb : ∀ p ∈ b, nearP p = true)
theorem reftimes_l1 (ha : ∀ p ∈ a, nearP p = true) (hb : ∀ p ∈ b, nearP p = true) (lb : b.length ≤ 64) (i : Nat) (hi : i < a.length) (r : List S25 × Int) : ∀ m j : Nat, m + j = b.length → ∀ out : List S25, out.length ≤ 100000 + j →
    Ev (fun k => vivariumref17_Times.l0 k a b (((b.drop j).map (addP (rd_T25 a (i : Int)))).foldl turnedL out) (wrap64 ((i : Int) + 1))) r → Ev (fun k => vivariumref17_Times.l1 k a b out (i : Int) (j : Int)) r
  | 0, j, h, out, ho, hK => by
    rw [List.drop_eq_nil_of_le (by omega)] at hK
    refine evT (fun k => ?_) hK
    rw [vivariumref17_Times.l1, if_neg (by omega)]; rfl
  | m + 1, j, h, out, ho, hK => by
    have hp := near_bounds (ha _ (rd_mem a i hi i rfl))
    have hq := near_bounds (hb _ (rd_mem b j (by omega) j rfl))
    have e := ev_turned out (addP (rd_T25 a (i : Int)) (rd_T25 b (j : Int))) (by omega)
    have ih := reftimes_l1 ha hb lb i hi r m (j + 1) (by omega) (turnedL out (addP (rd_T25 a (i : Int)) (rd_T25 b (j : Int)))) (by have := turnedL_len out (addP (rd_T25 a (i : Int)) (rd_T25 b (j : Int))); omega) (by
      rw [rd_drop b j (by omega), List.map_cons, List.foldl_cons] at hK
      exact hK)
    refine evT (f := fun k => (vivariumref17_turned.f k out (addP (rd_T25 a (i : Int)) (rd_T25 b (j : Int))).f0 (addP (rd_T25 a (i : Int)) (rd_T25 b (j : Int))).f1).bind fun t => vivariumref17_Times.l1 k a b t (i : Int) ((j + 1 : Nat) : Int)) (fun k => ?_) (Ev.bind e ih)
    rw [vivariumref17_Times.l1, if_pos (by omega), if_pos (by omega), if_pos (by omega), if_pos (by omega), w64 (a := (rd_T25 a (i : Int)).f0 + _) (by omega) (by omega), w64 (a := (rd_T25 a (i : Int)).f1 + _) (by omega) (by omega), w64 (a := (j : Int) + 1) (by omega) (by omega)]; rfl
theorem reftimes_l0 (ha : ∀ p ∈ a, nearP p = true) (hb : ∀ p ∈ b, nearP p = true) (la : a.length ≤ 64) (lb : b.length ≤ 64) (r : List S25 × Int) (hr : Ev (fun k => vivariumref17_Times.l2 k (sortP (norm (prods a b))) 0) r) : ∀ m i : Nat, m + i = a.length → Ev (fun k => vivariumref17_Times.l0 k a b ((prods (a.take i) b).foldl turnedL []) (i : Int)) r
  | 0, i, h => by
    rw [List.take_of_length_le (by omega), ft_eq]
    refine evT (fun k => ?_) hr
    rw [vivariumref17_Times.l0, if_neg (by omega)]
  | m + 1, i, h => by
    have ih := reftimes_l0 ha hb la lb r hr m (i + 1) (by omega)
    rw [take_succ_rd a i (by omega), prods_snoc, List.foldl_append] at ih
    have hlen := ft_len (prods (a.take i) b) []
    have hm : i * b.length ≤ 64 * 64 := Nat.mul_le_mul (by omega) lb
    rw [prods_length, List.length_take, Nat.min_eq_left (by omega)] at hlen
    simp only [List.length_nil] at hlen
    have key := reftimes_l1 a b ha hb lb i (by omega) r b.length 0 (by omega) ((prods (a.take i) b).foldl turnedL []) (by omega) (by
      rw [List.drop_zero, show wrap64 ((i : Int) + 1) = ((i + 1 : Nat) : Int) from by rw [w64 (by omega) (by omega)]; omega]
      exact ih)
    refine evT (fun k => ?_) key
    rw [vivariumref17_Times.l0, if_pos (by omega)]; rfl

/-- The document's Times. -/
theorem ev_refTimes (la : a.length < 9223372036854775807) (lb : b.length < 9223372036854775807) : ∃ r, linear_Times.f a b = some r ∧ Ev (fun k => vivariumref17_Times.f k a b) r := by
  obtain ⟨e1, h1, v1⟩ := ev_Check a la
  obtain ⟨e2, h2, v2⟩ := ev_Check b lb
  unfold linear_Times.f
  rw [h1, Option.bind_some]
  by_cases c1 : e1 = 0
  case neg =>
    rw [if_neg c1]
    refine ⟨_, rfl, ?_⟩
    refine Ev.congr (f := fun k => (vivariumref17_Check.f k a).bind fun t => if t = 0 then ((vivariumref17_Check.f k b).bind fun t266 => (if t266 = 0 then (vivariumref17_Times.l0 k a b ([] : List (S25)) 0) else (some (([] : List (S25)), t266)))) else some ([], t)) (fun k => rfl) (Ev.bind v1 ?_)
    simp only [if_neg c1]
    exact Ev.now _
  subst c1
  rw [if_pos rfl, h2, Option.bind_some]
  by_cases c2 : e2 = 0
  case neg =>
    rw [if_neg c2]
    refine ⟨_, rfl, ?_⟩
    refine Ev.congr (f := fun k => (vivariumref17_Check.f k a).bind fun t => if t = 0 then ((vivariumref17_Check.f k b).bind fun t266 => (if t266 = 0 then (vivariumref17_Times.l0 k a b ([] : List (S25)) 0) else (some (([] : List (S25)), t266)))) else some ([], t)) (fun k => rfl) (Ev.bind v1 ?_)
    simp only [if_true]
    refine Ev.bind v2 ?_
    simp only [if_neg c2]
    exact Ev.now _
  subst c2
  rw [if_pos rfl]
  obtain ⟨na, ra, da⟩ := check_zero h1
  obtain ⟨nb, rb, db⟩ := check_zero h2
  have hlen := norm_length (prods a b)
  have hm : a.length * b.length ≤ 64 * 64 := Nat.mul_le_mul na nb
  rw [prods_length] at hlen
  have h3 := reftimes_l2 (sortP (norm (prods a b))) (by rw [(sortP_perm _).length_eq]; omega) (sortP (norm (prods a b))).length 0 (by omega) (by simp)
  have h4 := reftimes_l0 a b ra rb na nb _ h3 a.length 0 (by omega)
  refine ⟨if (sortP (norm (prods a b))).all nearP = true then (sortP (norm (prods a b)), 0) else ([], 5), by split <;> rfl, ?_⟩
  refine Ev.congr (f := fun k => (vivariumref17_Check.f k a).bind fun t => if t = 0 then ((vivariumref17_Check.f k b).bind fun t266 => (if t266 = 0 then (vivariumref17_Times.l0 k a b ([] : List (S25)) 0) else (some (([] : List (S25)), t266)))) else some ([], t)) (fun k => rfl) (Ev.bind v1 ?_)
  simp only [if_true]
  refine Ev.bind v2 ?_
  simp only [if_true]
  exact h4
end
end Go.Proofs.Ytomogkhdfaiekaa.PLin
