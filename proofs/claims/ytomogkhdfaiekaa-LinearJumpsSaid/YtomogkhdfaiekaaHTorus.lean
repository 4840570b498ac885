/-
  A torus' cells in closed form, out of the printed functions; no walk.
-/
import Derived.Test.YtomogkhdfaiekaaHTimes
import Derived.Test.YtomogkhdfaiekaaHFold
import Derived.Test.YtomogkhdfaiekaaHCell
namespace Go.Proofs.Ytomogkhdfaiekaa.PLin
open Go.Proofs.Ytomogkhdfaiekaa.HW Go.Proofs.Ytomogkhdfaiekaa.HSet Go.RowKit Go.Proofs.YtomogkhdfaiekaaW.PrintWords Go.Proofs.YtomogkhdfaiekaaW.PrintLast Go.Proofs.YtomogkhdfaiekaaW.PrintMore
set_option linter.unusedVariables false
set_option linter.unusedSimpArgs false


/-- What is known of a torus that may be. -/
structure TV (W H T S : Int) : Prop where
  w1 : 1 ≤ W
  w2 : W ≤ 65536
  h1 : 1 ≤ H
  h2 : H ≤ 65536
  s1 : -65536 < S
  s2 : S < 65536

/-- The cell that a place is, on a torus. -/
def cellG (W H T S : Int) (p : S25) : S25 :=
  let u := p.f0 + W / 2
  let v := p.f1 + H / 2
  if T = 1 then ⟨(u - v / H * S) % W - W / 2, v % H - H / 2⟩
  else if T = 2 then ⟨u % W - W / 2, (v - u / W * S) % H - H / 2⟩
  else ⟨u % W - W / 2, v % H - H / 2⟩

theorem div_eq (a n : Int) (hn : 0 < n) (ha : -4611686018427387904 ≤ a ∧ a ≤ 4611686018427387904) : whole_Div_int.f a n = some (a / n, true) := by
  unfold whole_Div_int.f
  rw [if_neg (by omega), if_neg (by omega)]
  have hq : -4611686018427387904 ≤ a.tdiv n ∧ a.tdiv n ≤ 4611686018427387904 := by
    have h1 := Int.natAbs_tdiv_le_natAbs a n
    omega
  rw [w64 (a := a.tdiv n) (by omega) (by omega)]
  have h1 := Int.mul_tdiv_add_tmod a n
  have h2 := Int.emod_add_mul_ediv a n
  have h3 := Int.emod_nonneg a (show n ≠ 0 by omega)
  have h4 := Int.emod_lt_of_pos a hn
  by_cases c : a.tmod n < 0
  · rw [if_pos c]
    have hm : -n < a.tmod n := by
      have := Int.tmod_lt_of_pos (-a) hn
      rw [Int.neg_tmod] at this
      omega
    have : a / n = a.tdiv n - 1 := by
      refine Int.ediv_emod_unique (a := a) (b := n) (r := a.tmod n + n) (q := a.tdiv n - 1) hn |>.2 ⟨?_, by omega, by omega⟩ |>.1
      rw [Int.mul_sub]; omega
    rw [this, w64 (by omega) (by omega)]
  · rw [if_neg c]
    have hm : a.tmod n < n := Int.tmod_lt_of_pos a hn
    have : a / n = a.tdiv n := by
      refine Int.ediv_emod_unique (a := a) (b := n) (r := a.tmod n) (q := a.tdiv n) hn |>.2 ⟨?_, by omega, by omega⟩ |>.1
      omega
    rw [this]

theorem mod_eq (a n : Int) (hn : 0 < n) (hn2 : n ≤ 65536) : whole_Mod_int.f a n = some (a % n, true) := by
  unfold whole_Mod_int.f
  rw [if_neg (by omega), if_neg (by omega)]
  have h1 := Int.mul_tdiv_add_tmod a n
  have h2 := Int.emod_add_mul_ediv a n
  have hm : -n < a.tmod n := by
    have := Int.tmod_lt_of_pos (-a) hn
    rw [Int.neg_tmod] at this
    omega
  have hm2 : a.tmod n < n := Int.tmod_lt_of_pos a hn
  by_cases c : a.tmod n < 0
  · rw [if_pos c]
    have : a % n = a.tmod n + n := by
      refine Int.ediv_emod_unique (a := a) (b := n) (r := a.tmod n + n) (q := a.tdiv n - 1) hn |>.2 ⟨?_, by omega, by omega⟩ |>.2
      rw [Int.mul_sub]; omega
    rw [this, w64 (by omega) (by omega)]
  · rw [if_neg c]
    have : a % n = a.tmod n := by
      refine Int.ediv_emod_unique (a := a) (b := n) (r := a.tmod n) (q := a.tdiv n) hn |>.2 ⟨?_, by omega, by omega⟩ |>.2
      omega
    rw [this]

theorem half_eq (n : Int) (h1 : 1 ≤ n) (h2 : n ≤ 65536) : wrap64 (-(wrap64 (Int.tdiv n 2))) = -(n / 2) := by
  rw [Int.tdiv_eq_ediv_of_nonneg (by omega), w64 (a := n / 2) (by omega) (by omega), w64 (by omega) (by omega)]

theorem torus_ok {K W H T S : Int} (h : linear_torus.f 8 K W H T S = some 0) : K = 2 ∧ topo_Check.f 8 K W H T S = some 0 ∧ TV W H T S := by
  unfold linear_torus.f at h
  obtain ⟨e, he, h⟩ := Option.bind_eq_some_iff.mp h
  by_cases e0 : e = 0
  case neg => rw [if_neg e0] at h; simp at h
  rw [if_pos e0] at h
  by_cases k2 : K = 2
  case neg => rw [if_neg k2] at h; simp at h
  rw [if_pos k2] at h
  by_cases w0 : W = 0
  case pos => rw [if_pos w0] at h; simp at h
  rw [if_neg w0] at h
  by_cases h0 : H = 0
  case pos => rw [if_pos h0] at h; simp at h
  subst e0 k2
  refine ⟨rfl, he, ?_⟩
  have hc : checkC 2 W H T S = 0 := Option.some.inj he
  unfold checkC at hc
  rw [if_neg (by omega)] at hc
  by_cases c1 : W < 0 ∨ 65536 < W ∨ H < 0 ∨ 65536 < H
  · rw [if_pos c1] at hc; omega
  rw [if_neg c1, if_neg (by omega), if_neg (by omega)] at hc
  by_cases c2 : 2 < T ∨ (((2 : Int) = 1 ∨ (2 : Int) = 4 ∨ (2 : Int) = 5) ∧ T ≠ 0) ∨ ((2 : Int) = 3 ∧ T = 0)
  · rw [if_pos c2] at hc; omega
  rw [if_neg c2] at hc
  by_cases c3 : T = 0
  · rw [if_pos c3] at hc
    have : S = 0 := by split at hc <;> omega
    exact ⟨by omega, by omega, by omega, by omega, by omega, by omega⟩
  rw [if_neg c3] at hc
  by_cases c4 : S ≤ -(if T = 2 then H else W) ∨ (if T = 2 then H else W) ≤ S ∨ (2 : Int) = 2 ∧ (S = 0 ∨ W = 0 ∨ H = 0)
  · rw [if_pos c4] at hc; omega
  have : -(if T = 2 then H else W) < S ∧ S < (if T = 2 then H else W) := by omega
  have : (if T = 2 then H else W) ≤ 65536 := by split <;> omega
  exact ⟨by omega, by omega, by omega, by omega, by omega, by omega⟩

theorem cut_eq (a n : Int) (hn : 0 < n) (hn2 : n ≤ 65536) (ha : -4611686018427387904 ≤ a ∧ a ≤ 4611686018427387904) : fold_cut.f a n = some (a / n, a % n) := by
  unfold fold_cut.f
  rw [if_neg (by omega), div_eq a n hn ha, mod_eq a n hn hn2]; rfl
theorem round_eq (a n : Int) (hn : 0 < n) (hn2 : n ≤ 65536) : fold_round.f a n = some (a % n) := by
  unfold fold_round.f
  rw [mod_eq a n hn hn2]; rfl

theorem home_eq {K W H T S : Int} {k : Nat} (hc : topo_Check.f k K W H T S = some 0) (hv : TV W H T S) : topo_Home.f k K W H T S = some (-(W / 2), -(H / 2), W, H, 0) := by
  unfold topo_Home.f
  rw [hc]
  simp only [Option.bind_some, if_true]
  rw [half_eq W hv.w1 hv.w2, half_eq H hv.h1 hv.h2]

/-- A bound of a quotient's product. -/
theorem turn_bound {v n S : Int} (hn : 0 < n) (hv : -2199023255552 ≤ v ∧ v ≤ 2199023255552) (hS : -65536 < S ∧ S < 65536) : -144115188075855872 ≤ v / n * S ∧ v / n * S ≤ 144115188075855872 := by
  have h1 : -2199023255552 ≤ v / n := Int.le_ediv_of_mul_le hn (by omega)
  have h2 : v / n < 2199023255553 := Int.ediv_lt_of_lt_mul hn (by omega)
  have h3 := Int.natAbs_mul (v / n) S
  have h4 : (v / n).natAbs * S.natAbs ≤ 2199023255552 * 65536 := Nat.mul_le_mul (by omega) (by omega)
  omega

theorem cellG_home {W H T S : Int} (hv : TV W H T S) (p : S25) : (-(W / 2) ≤ (cellG W H T S p).f0 ∧ (cellG W H T S p).f0 < W - W / 2) ∧ -(H / 2) ≤ (cellG W H T S p).f1 ∧ (cellG W H T S p).f1 < H - H / 2 := by
  obtain ⟨w1, w2, h1, h2, s1, s2⟩ := hv
  have e1 := fun a => Int.emod_nonneg a (show W ≠ 0 by omega)
  have e2 := fun a => Int.emod_lt_of_pos a (show 0 < W by omega)
  have e3 := fun a => Int.emod_nonneg a (show H ≠ 0 by omega)
  have e4 := fun a => Int.emod_lt_of_pos a (show 0 < H by omega)
  unfold cellG
  dsimp only
  split
  · have := e1 (p.f0 + W / 2 - (p.f1 + H / 2) / H * S); have := e2 (p.f0 + W / 2 - (p.f1 + H / 2) / H * S); have := e3 (p.f1 + H / 2); have := e4 (p.f1 + H / 2)
    dsimp only; omega
  · split
    · have := e1 (p.f0 + W / 2); have := e2 (p.f0 + W / 2); have := e3 (p.f1 + H / 2 - (p.f0 + W / 2) / W * S); have := e4 (p.f1 + H / 2 - (p.f0 + W / 2) / W * S)
      dsimp only; omega
    · have := e1 (p.f0 + W / 2); have := e2 (p.f0 + W / 2); have := e3 (p.f1 + H / 2); have := e4 (p.f1 + H / 2)
      dsimp only; omega

theorem near_cell {W H T S : Int} (hv : TV W H T S) (p : S25) : ((-32768 ≤ (cellG W H T S p).f0 ∧ (cellG W H T S p).f0 ≤ 32768) ∧ -32768 ≤ (cellG W H T S p).f1 ∧ (cellG W H T S p).f1 ≤ 32768) := by
  have := cellG_home hv p
  obtain ⟨w1, w2, h1, h2, s1, s2⟩ := hv
  omega

theorem grid_cell_eq {W H T S : Int} (hv : TV W H T S) {p : S25} (hp : nearP p = true) :
    fold_grid_cell.f 2 W H T S (-(W / 2)) (-(H / 2)) p.f0 p.f1 = some ((cellG W H T S p).f0, (cellG W H T S p).f1, 0) := by
  have hb := near_bounds hp
  have hn := cellG_home hv p
  obtain ⟨w1, w2, h1, h2, s1, s2⟩ := hv
  have hh : fold_grid_home.f 2 W H T S (-(W / 2)) (-(H / 2)) p.f0 p.f1 = some (p.f0 + W / 2, p.f1 + H / 2) := by
    unfold fold_grid_home.f
    rw [if_pos (by omega), if_pos (by omega), w64 (by omega) (by omega), w64 (by omega) (by omega)]
    simp only [Option.some.injEq, Prod.mk.injEq]; omega
  have hp : ∀ a b, 0 ≤ a → a < W → 0 ≤ b → b < H → fold_grid_place.f 2 W H T S (-(W / 2)) (-(H / 2)) a b = some (a - W / 2, b - H / 2) := by
    intro a b a1 a2 b1 b2
    unfold fold_grid_place.f
    rw [if_pos (by omega), if_pos (by omega), w64 (by omega) (by omega), w64 (by omega) (by omega)]
    simp only [Option.some.injEq, Prod.mk.injEq]; omega
  have tb1 := turn_bound (v := p.f1 + H / 2) (n := H) (S := S) (by omega) (by omega) ⟨s1, s2⟩
  have tb2 := turn_bound (v := p.f0 + W / 2) (n := W) (S := S) (by omega) (by omega) ⟨s1, s2⟩
  have e1 := fun a => Int.emod_nonneg a (show W ≠ 0 by omega)
  have e2 := fun a => Int.emod_lt_of_pos a (show 0 < W by omega)
  have e3 := fun a => Int.emod_nonneg a (show H ≠ 0 by omega)
  have e4 := fun a => Int.emod_lt_of_pos a (show 0 < H by omega)
  unfold fold_grid_cell.f
  rw [if_pos rfl, hh]
  simp only [Option.bind_some]
  unfold fold_grid_torus.f
  rw [cut_eq (p.f0 + W / 2) W (by omega) w2 (by omega), cut_eq (p.f1 + H / 2) H (by omega) h2 (by omega)]
  simp only [Option.bind_some]
  unfold cellG
  dsimp only
  by_cases t1 : T = 1
  · rw [if_pos t1, if_pos t1, w64 (a := (p.f1 + H / 2) / H * S) (by omega) (by omega), w64 (by omega) (by omega), round_eq _ W (by omega) w2]
    simp only [Option.bind_some]
    rw [hp _ _ (e1 _) (e2 _) (e3 _) (e4 _)]; rfl
  · rw [if_neg t1, if_neg t1]
    by_cases t2 : T = 2
    · rw [if_pos t2, if_pos t2, w64 (a := (p.f0 + W / 2) / W * S) (by omega) (by omega), w64 (by omega) (by omega), round_eq _ H (by omega) h2]
      simp only [Option.bind_some]
      rw [hp _ _ (e1 _) (e2 _) (e3 _) (e4 _)]; rfl
    · rw [if_neg t2, if_neg t2]
      simp only [Option.bind_some]
      rw [hp _ _ (e1 _) (e2 _) (e3 _) (e4 _)]; rfl

/-- What a torus' cells are. -/
theorem fold_Cell_eq {K W H T S : Int} (hc : topo_Check.f 8 K W H T S = some 0) (hk : K = 2) (hv : TV W H T S) {p : S25} (hp : nearP p = true) :
    fold_Cell.f 10 K W H T S p.f0 p.f1 = some ((cellG W H T S p).f0, (cellG W H T S p).f1, 0) := by
  unfold fold_Cell.f
  rw [if_pos (Option.some.inj hc), if_pos hp]
  subst hk
  exact grid_cell_eq hv hp

/-- Is a place one of a torus' cells? -/
def hasB (W H : Int) (p : S25) : Bool := decide (-(W / 2) ≤ p.f0 ∧ p.f0 < W - W / 2) && decide (-(H / 2) ≤ p.f1 ∧ p.f1 < H - H / 2)

theorem has1_eq {a n : Int} (h1 : 1 ≤ n) (h2 : n ≤ 65536) : topo_Has_1.f a (-(n / 2)) n = some (decide (-(n / 2) ≤ a ∧ a < n - n / 2)) := by
  unfold topo_Has_1.f
  rw [if_neg (by omega), w64 (by omega) (by omega)]
  by_cases c : a ≥ -(n / 2)
  · rw [if_pos c]; simp only [Option.some.injEq]; rw [Bool.eq_iff_iff, decide_eq_true_eq, decide_eq_true_eq]; omega
  · rw [if_neg c]; simp only [Option.some.injEq]; rw [eq_comm, decide_eq_false_iff_not]; omega

theorem topo_Has_eq {K W H T S : Int} (hc : topo_Check.f 8 K W H T S = some 0) (hv : TV W H T S) (p : S25) :
    ∃ b e, topo_Has.f K W H T S p.f0 p.f1 = some (b, e) ∧ (b && e == 0) = hasB W H p := by
  have c9 := topo_Check.mono K W H T S 8 0 hc
  have c10 := topo_Check.mono K W H T S 9 0 c9
  unfold topo_Has.f
  rw [home_eq c10 hv]
  simp only [Option.bind_some, if_true]
  have hw := hv.w1; have hw2 := hv.w2; have hh := hv.h1; have hh2 := hv.h2
  unfold mx mn
  by_cases c1 : (if p.f0 < p.f1 then p.f1 else p.f0) > 1099511627776
  · rw [if_pos c1]
    refine ⟨_, _, rfl, ?_⟩
    rw [show hasB W H p = false from by unfold hasB; rw [Bool.and_eq_false_iff, decide_eq_false_iff_not, decide_eq_false_iff_not]; split at c1 <;> omega]; rfl
  rw [if_neg c1]
  by_cases c2 : (if p.f1 < p.f0 then p.f1 else p.f0) < -1099511627776
  · rw [if_pos c2]
    refine ⟨_, _, rfl, ?_⟩
    rw [show hasB W H p = false from by unfold hasB; rw [Bool.and_eq_false_iff, decide_eq_false_iff_not, decide_eq_false_iff_not]; split at c2 <;> omega]; rfl
  rw [if_neg c2, has1_eq hw hw2, has1_eq hh hh2]
  simp only [Option.bind_some]
  unfold hasB
  by_cases c3 : -(W / 2) ≤ p.f0 ∧ p.f0 < W - W / 2
  · rw [decide_eq_true c3, if_pos rfl]
    exact ⟨_, _, rfl, by simp⟩
  · rw [decide_eq_false c3, if_neg (by simp)]
    exact ⟨_, _, rfl, by simp⟩
end Go.Proofs.Ytomogkhdfaiekaa.PLin
