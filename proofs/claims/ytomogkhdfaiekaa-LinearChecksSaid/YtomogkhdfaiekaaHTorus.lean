/-
  A torus' cells in closed form, out of the printed functions; no walk.
-/
import Derived.Test.YtomogkhdfaiekaaHTimes
import Derived.Test.YtomogkhdfaiekaaHFold
import Derived.Test.YtomogkhdfaiekaaPLinx67
namespace Go.Proofs.Ytomogkhdfaiekaa.PLin
open Go.Proofs.Ytomogkhdfaiekaa.HW Go.Proofs.Ytomogkhdfaiekaa.HSet Go.RowKit Go.Proofs.YtomogkhdfaiekaaW.PrintWords Go.Proofs.YtomogkhdfaiekaaW.PrintLast Go.Proofs.YtomogkhdfaiekaaW.PrintMore
set_option linter.unusedVariables false
set_option linter.unusedSimpArgs false

theorem w64 {a : Int} (h1 : -9223372036854775808 ≤ a) (h2 : a ≤ 9223372036854775807) : wrap64 a = a := by unfold wrap64; omega

/-- What is known of a torus that may be. -/
structure TV (W H T S : Int) : Prop where
  w1 : 1 ≤ W
  w2 : W ≤ 65536
  h1 : 1 ≤ H
  h2 : H ≤ 65536
  s1 : -65536 < S
  s2 : S < 65536

/-- The cell that a place is, on a torus. -/
def cellG (W H T S : Int) (p : S25) : S25 :=
  let u := p.f0 + W / 2
  let v := p.f1 + H / 2
  if T = 1 then ⟨(u - v / H * S) % W - W / 2, v % H - H / 2⟩
  else if T = 2 then ⟨u % W - W / 2, (v - u / W * S) % H - H / 2⟩
  else ⟨u % W - W / 2, v % H - H / 2⟩

theorem div_eq (a n : Int) (hn : 0 < n) (ha : -4611686018427387904 ≤ a ∧ a ≤ 4611686018427387904) : whole_Div_int.f a n = some (a / n, true) := by
  unfold whole_Div_int.f
  rw [if_neg (by omega), if_neg (by omega)]
  have hq : -4611686018427387904 ≤ a.tdiv n ∧ a.tdiv n ≤ 4611686018427387904 := by
    have h1 := Int.natAbs_tdiv_le_natAbs a n
    omega
  rw [w64 (a := a.tdiv n) (by omega) (by omega)]
  have h1 := Int.mul_tdiv_add_tmod a n
  have h2 := Int.emod_add_mul_ediv a n
  have h3 := Int.emod_nonneg a (show n ≠ 0 by omega)
  have h4 := Int.emod_lt_of_pos a hn
  by_cases c : a.tmod n < 0
  · rw [if_pos c]
    have hm : -n < a.tmod n := by
      have := Int.tmod_lt_of_pos (-a) hn
      rw [Int.neg_tmod] at this
      omega
    have : a / n = a.tdiv n - 1 := by
      refine Int.ediv_emod_unique (a := a) (b := n) (r := a.tmod n + n) (q := a.tdiv n - 1) hn |>.2 ⟨?_, by omega, by omega⟩ |>.1
      rw [Int.mul_sub]; omega
    rw [this, w64 (by omega) (by omega)]
  · rw [if_neg c]
    have hm : a.tmod n < n := Int.tmod_lt_of_pos a hn
    have : a / n = a.tdiv n := by
      refine Int.ediv_emod_unique (a := a) (b := n) (r := a.tmod n) (q := a.tdiv n) hn |>.2 ⟨?_, by omega, by omega⟩ |>.1
      omega
    rw [this]

theorem mod_eq (a n : Int) (hn : 0 < n) (hn2 : n ≤ 65536) : whole_Mod_int.f a n = some (a % n, true) := by
  unfold whole_Mod_int.f
  rw [if_neg (by omega), if_neg (by omega)]
  have h1 := Int.mul_tdiv_add_tmod a n
  have h2 := Int.emod_add_mul_ediv a n
  have hm : -n < a.tmod n := by
    have := Int.tmod_lt_of_pos (-a) hn
    rw [Int.neg_tmod] at this
    omega
  have hm2 : a.tmod n < n := Int.tmod_lt_of_pos a hn
  by_cases c : a.tmod n < 0
  · rw [if_pos c]
    have : a % n = a.tmod n + n := by
      refine Int.ediv_emod_unique (a := a) (b := n) (r := a.tmod n + n) (q := a.tdiv n - 1) hn |>.2 ⟨?_, by omega, by omega⟩ |>.2
      rw [Int.mul_sub]; omega
    rw [this, w64 (by omega) (by omega)]
  · rw [if_neg c]
    have : a % n = a.tmod n := by
      refine Int.ediv_emod_unique (a := a) (b := n) (r := a.tmod n) (q := a.tdiv n) hn |>.2 ⟨?_, by omega, by omega⟩ |>.2
      omega
    rw [this]

theorem half_eq (n : Int) (h1 : 1 ≤ n) (h2 : n ≤ 65536) : wrap64 (-(wrap64 (Int.tdiv n 2))) = -(n / 2) := by
  rw [Int.tdiv_eq_ediv_of_nonneg (by omega), w64 (a := n / 2) (by omega) (by omega), w64 (by omega) (by omega)]

theorem torus_ok {K W H T S : Int} (h : linear_torus.f 8 K W H T S = some 0) : K = 2 ∧ topo_Check.f 8 K W H T S = some 0 ∧ TV W H T S := by
  unfold linear_torus.f at h
  obtain ⟨e, he, h⟩ := Option.bind_eq_some_iff.mp h
  by_cases e0 : e = 0
  case neg => rw [if_neg e0] at h; simp at h
  rw [if_pos e0] at h
  by_cases k2 : K = 2
  case neg => rw [if_neg k2] at h; simp at h
  rw [if_pos k2] at h
  by_cases w0 : W = 0
  case pos => rw [if_pos w0] at h; simp at h
  rw [if_neg w0] at h
  by_cases h0 : H = 0
  case pos => rw [if_pos h0] at h; simp at h
  subst e0 k2
  refine ⟨rfl, he, ?_⟩
  clear h
  unfold topo_Check.f at he
  rw [if_neg (by omega)] at he
  unfold topo_Check.j0 at he
  rw [show (decide ((2 : Int) > 5)) = false from by decide] at he
  simp only [Bool.false_eq_true, if_false] at he
  unfold topo_Check.j1 at he
  by_cases c1 : W < 0
  · rw [if_pos c1] at he; simp at he
  rw [if_neg c1] at he
  by_cases c2 : W > 65536
  · rw [if_pos c2] at he; simp at he
  rw [if_neg c2] at he
  by_cases c3 : H < 0
  · rw [if_pos c3] at he; simp at he
  rw [if_neg c3] at he
  by_cases c4 : H > 65536
  · rw [decide_eq_true c4] at he; simp at he
  rw [decide_eq_false c4] at he
  simp only [Bool.false_eq_true, if_false] at he
  simp only [show ¬ ((2 : Int) = 5) by omega, show ¬ ((2 : Int) = 4) by omega, show ¬ ((2 : Int) = 3) by omega, show ¬ ((2 : Int) = 1) by omega, if_false] at he
  unfold topo_Check.j2 at he
  simp only [if_true, show ¬ ((2 : Int) = 3) by omega, if_false] at he
  have key : ∀ b : Bool, topo_Check.j3 5 b 2 W H T S = some 0 → TV W H T S := by
    intro b hb
    unfold topo_Check.j3 at hb
    cases b
    case true => simp at hb
    simp only [Bool.false_eq_true, if_false] at hb
    by_cases t0 : T = 0
    · rw [if_pos t0] at hb
      unfold topo_Check.j4 at hb
      by_cases s0 : S = 0
      · exact ⟨by omega, by omega, by omega, by omega, by omega, by omega⟩
      · rw [bne_iff_ne.2 s0] at hb; simp at hb
    · rw [if_neg t0] at hb
      unfold topo_Check.j4 topo_turned.f at hb
      simp only [Bool.false_eq_true, if_false, if_neg t0] at hb
      have : ∀ n : Int, 1 ≤ n → n ≤ 65536 → ((some n).bind fun t123 => (if S ≤ (wrap64 (-t123)) then (some 43) else (if S ≥ t123 then (some 43) else (if (2 : Int) = 2 then (if S = 0 then (some 43) else (if W = 0 then (some 43) else (if H = 0 then (some 43) else (some 0)))) else (some 0))))) = some (0 : Int) → TV W H T S := by
        intro n n1 n2 hn
        simp only [Option.bind_some] at hn
        rw [w64 (by omega) (by omega)] at hn
        by_cases a1 : S ≤ -n
        · rw [if_pos a1] at hn; simp at hn
        rw [if_neg a1] at hn
        by_cases a2 : S ≥ n
        · rw [if_pos a2] at hn; simp at hn
        exact ⟨by omega, by omega, by omega, by omega, by omega, by omega⟩
      by_cases t2 : T = 2
      · rw [if_pos t2] at hb; exact this H (by omega) (by omega) hb
      · rw [if_neg t2] at hb; exact this W (by omega) (by omega) hb
  by_cases t2 : T > 2
  · rw [if_pos t2] at he; exact key _ he
  · rw [if_neg t2] at he; exact key _ he

theorem cut_eq (a n : Int) (hn : 0 < n) (hn2 : n ≤ 65536) (ha : -4611686018427387904 ≤ a ∧ a ≤ 4611686018427387904) : fold_cut.f a n = some (a / n, a % n) := by
  unfold fold_cut.f
  rw [if_neg (by omega), div_eq a n hn ha, mod_eq a n hn hn2]; rfl
theorem round_eq (a n : Int) (hn : 0 < n) (hn2 : n ≤ 65536) : fold_round.f a n = some (a % n) := by
  unfold fold_round.f
  rw [mod_eq a n hn hn2]; rfl

theorem home_eq {K W H T S : Int} {k : Nat} (hc : topo_Check.f k K W H T S = some 0) (hv : TV W H T S) : topo_Home.f k K W H T S = some (-(W / 2), -(H / 2), W, H, 0) := by
  unfold topo_Home.f
  rw [hc]
  simp only [Option.bind_some, if_true]
  rw [half_eq W hv.w1 hv.w2, half_eq H hv.h1 hv.h2]

/-- A bound of a quotient's product. -/
theorem turn_bound {v n S : Int} (hn : 0 < n) (hv : -2199023255552 ≤ v ∧ v ≤ 2199023255552) (hS : -65536 < S ∧ S < 65536) : -144115188075855872 ≤ v / n * S ∧ v / n * S ≤ 144115188075855872 := by
  have h1 : -2199023255552 ≤ v / n := Int.le_ediv_of_mul_le hn (by omega)
  have h2 : v / n < 2199023255553 := Int.ediv_lt_of_lt_mul hn (by omega)
  have h3 := Int.natAbs_mul (v / n) S
  have h4 : (v / n).natAbs * S.natAbs ≤ 2199023255552 * 65536 := Nat.mul_le_mul (by omega) (by omega)
  omega

theorem cellG_home {W H T S : Int} (hv : TV W H T S) (p : S25) : (-(W / 2) ≤ (cellG W H T S p).f0 ∧ (cellG W H T S p).f0 < W - W / 2) ∧ -(H / 2) ≤ (cellG W H T S p).f1 ∧ (cellG W H T S p).f1 < H - H / 2 := by
  obtain ⟨w1, w2, h1, h2, s1, s2⟩ := hv
  have e1 := fun a => Int.emod_nonneg a (show W ≠ 0 by omega)
  have e2 := fun a => Int.emod_lt_of_pos a (show 0 < W by omega)
  have e3 := fun a => Int.emod_nonneg a (show H ≠ 0 by omega)
  have e4 := fun a => Int.emod_lt_of_pos a (show 0 < H by omega)
  unfold cellG
  dsimp only
  split
  · have := e1 (p.f0 + W / 2 - (p.f1 + H / 2) / H * S); have := e2 (p.f0 + W / 2 - (p.f1 + H / 2) / H * S); have := e3 (p.f1 + H / 2); have := e4 (p.f1 + H / 2)
    dsimp only; omega
  · split
    · have := e1 (p.f0 + W / 2); have := e2 (p.f0 + W / 2); have := e3 (p.f1 + H / 2 - (p.f0 + W / 2) / W * S); have := e4 (p.f1 + H / 2 - (p.f0 + W / 2) / W * S)
      dsimp only; omega
    · have := e1 (p.f0 + W / 2); have := e2 (p.f0 + W / 2); have := e3 (p.f1 + H / 2); have := e4 (p.f1 + H / 2)
      dsimp only; omega

theorem near_cell {W H T S : Int} (hv : TV W H T S) (p : S25) : ((-32768 ≤ (cellG W H T S p).f0 ∧ (cellG W H T S p).f0 ≤ 32768) ∧ -32768 ≤ (cellG W H T S p).f1 ∧ (cellG W H T S p).f1 ≤ 32768) := by
  have := cellG_home hv p
  obtain ⟨w1, w2, h1, h2, s1, s2⟩ := hv
  omega

theorem fold_near_eq {p : S25} (h : nearP p = true) : fold_near.f p.f0 p.f1 = some true := by
  have hb := near_bounds h
  unfold fold_near.f mx mn
  rw [if_pos (by split <;> omega), decide_eq_true (by split <;> omega)]

set_option maxRecDepth 100000 in
theorem fold_of_eq {K W H T S : Int} (hc : topo_Check.f 8 K W H T S = some 0) (hv : TV W H T S) {p : S25} (hp : nearP p = true) :
    fold_of.f 10 K W H T S [p] = some (K, W, H, T, S, -(W / 2), -(H / 2), 0) := by
  have c9 := topo_Check.mono K W H T S 8 0 hc
  have c10 := topo_Check.mono K W H T S 9 0 c9
  unfold fold_of.f
  rw [c10]
  simp only [Option.bind_some, if_true, List.length_singleton]
  unfold fold_of.l0
  rw [if_pos (by decide), if_pos (by decide), if_pos (by simp)]
  rw [show rd_T25 [p] 0 = p from rfl, fold_near_eq hp]
  simp only [Option.bind_some, if_true]
  rw [show wrap64 (0 + 1) = 1 from w64 (a := 0 + 1) (by omega) (by omega)]
  unfold fold_of.l0
  rw [if_neg (by decide), home_eq hc hv]
  rfl

theorem grid_cell_eq {W H T S : Int} (hv : TV W H T S) {p : S25} (hp : nearP p = true) :
    fold_grid_cell.f 2 W H T S (-(W / 2)) (-(H / 2)) p.f0 p.f1 = some ((cellG W H T S p).f0, (cellG W H T S p).f1, 0) := by
  have hb := near_bounds hp
  have hn := cellG_home hv p
  obtain ⟨w1, w2, h1, h2, s1, s2⟩ := hv
  have hh : fold_grid_home.f 2 W H T S (-(W / 2)) (-(H / 2)) p.f0 p.f1 = some (p.f0 + W / 2, p.f1 + H / 2) := by
    unfold fold_grid_home.f
    rw [if_pos (by omega), if_pos (by omega), w64 (by omega) (by omega), w64 (by omega) (by omega)]
    simp only [Option.some.injEq, Prod.mk.injEq]; omega
  have hp : ∀ a b, 0 ≤ a → a < W → 0 ≤ b → b < H → fold_grid_place.f 2 W H T S (-(W / 2)) (-(H / 2)) a b = some (a - W / 2, b - H / 2) := by
    intro a b a1 a2 b1 b2
    unfold fold_grid_place.f
    rw [if_pos (by omega), if_pos (by omega), w64 (by omega) (by omega), w64 (by omega) (by omega)]
    simp only [Option.some.injEq, Prod.mk.injEq]; omega
  have tb1 := turn_bound (v := p.f1 + H / 2) (n := H) (S := S) (by omega) (by omega) ⟨s1, s2⟩
  have tb2 := turn_bound (v := p.f0 + W / 2) (n := W) (S := S) (by omega) (by omega) ⟨s1, s2⟩
  have e1 := fun a => Int.emod_nonneg a (show W ≠ 0 by omega)
  have e2 := fun a => Int.emod_lt_of_pos a (show 0 < W by omega)
  have e3 := fun a => Int.emod_nonneg a (show H ≠ 0 by omega)
  have e4 := fun a => Int.emod_lt_of_pos a (show 0 < H by omega)
  unfold fold_grid_cell.f
  rw [if_pos rfl, hh]
  simp only [Option.bind_some]
  unfold fold_grid_torus.f
  rw [cut_eq (p.f0 + W / 2) W (by omega) w2 (by omega), cut_eq (p.f1 + H / 2) H (by omega) h2 (by omega)]
  simp only [Option.bind_some]
  unfold cellG
  dsimp only
  by_cases t1 : T = 1
  · rw [if_pos t1, if_pos t1, w64 (a := (p.f1 + H / 2) / H * S) (by omega) (by omega), w64 (by omega) (by omega), round_eq _ W (by omega) w2]
    simp only [Option.bind_some]
    rw [hp _ _ (e1 _) (e2 _) (e3 _) (e4 _)]; rfl
  · rw [if_neg t1, if_neg t1]
    by_cases t2 : T = 2
    · rw [if_pos t2, if_pos t2, w64 (a := (p.f0 + W / 2) / W * S) (by omega) (by omega), w64 (by omega) (by omega), round_eq _ H (by omega) h2]
      simp only [Option.bind_some]
      rw [hp _ _ (e1 _) (e2 _) (e3 _) (e4 _)]; rfl
    · rw [if_neg t2, if_neg t2]
      simp only [Option.bind_some]
      rw [hp _ _ (e1 _) (e2 _) (e3 _) (e4 _)]; rfl

/-- What a torus' cells are. -/
theorem fold_Cell_eq {K W H T S : Int} (hc : topo_Check.f 8 K W H T S = some 0) (hk : K = 2) (hv : TV W H T S) {p : S25} (hp : nearP p = true) :
    fold_Cell.f 10 K W H T S p.f0 p.f1 = some ((cellG W H T S p).f0, (cellG W H T S p).f1, 0) := by
  unfold fold_Cell.f
  rw [show ([⟨p.f0, p.f1⟩] : List S25) = [p] from rfl, fold_of_eq hc hv hp]
  simp only [Option.bind_some, if_true]
  rw [hk, grid_cell_eq hv hp]; rfl

/-- Is a place one of a torus' cells? -/
def hasB (W H : Int) (p : S25) : Bool := decide (-(W / 2) ≤ p.f0 ∧ p.f0 < W - W / 2) && decide (-(H / 2) ≤ p.f1 ∧ p.f1 < H - H / 2)

theorem has1_eq {a n : Int} (h1 : 1 ≤ n) (h2 : n ≤ 65536) : topo_Has_1.f a (-(n / 2)) n = some (decide (-(n / 2) ≤ a ∧ a < n - n / 2)) := by
  unfold topo_Has_1.f
  rw [if_neg (by omega), w64 (by omega) (by omega)]
  by_cases c : a ≥ -(n / 2)
  · rw [if_pos c]; simp only [Option.some.injEq]; rw [Bool.eq_iff_iff, decide_eq_true_eq, decide_eq_true_eq]; omega
  · rw [if_neg c]; simp only [Option.some.injEq]; rw [eq_comm, decide_eq_false_iff_not]; omega

theorem topo_Has_eq {K W H T S : Int} (hc : topo_Check.f 8 K W H T S = some 0) (hv : TV W H T S) (p : S25) :
    ∃ b e, topo_Has.f K W H T S p.f0 p.f1 = some (b, e) ∧ (b && e == 0) = hasB W H p := by
  have c9 := topo_Check.mono K W H T S 8 0 hc
  have c10 := topo_Check.mono K W H T S 9 0 c9
  unfold topo_Has.f
  rw [home_eq c10 hv]
  simp only [Option.bind_some, if_true]
  have hw := hv.w1; have hw2 := hv.w2; have hh := hv.h1; have hh2 := hv.h2
  unfold mx mn
  by_cases c1 : (if p.f0 < p.f1 then p.f1 else p.f0) > 1099511627776
  · rw [if_pos c1]
    refine ⟨_, _, rfl, ?_⟩
    rw [show hasB W H p = false from by unfold hasB; rw [Bool.and_eq_false_iff, decide_eq_false_iff_not, decide_eq_false_iff_not]; split at c1 <;> omega]; rfl
  rw [if_neg c1]
  by_cases c2 : (if p.f1 < p.f0 then p.f1 else p.f0) < -1099511627776
  · rw [if_pos c2]
    refine ⟨_, _, rfl, ?_⟩
    rw [show hasB W H p = false from by unfold hasB; rw [Bool.and_eq_false_iff, decide_eq_false_iff_not, decide_eq_false_iff_not]; split at c2 <;> omega]; rfl
  rw [if_neg c2, has1_eq hw hw2, has1_eq hh hh2]
  simp only [Option.bind_some]
  unfold hasB
  by_cases c3 : -(W / 2) ≤ p.f0 ∧ p.f0 < W - W / 2
  · rw [decide_eq_true c3, if_pos rfl]
    exact ⟨_, _, rfl, by simp⟩
  · rw [decide_eq_false c3, if_neg (by simp)]
    exact ⟨_, _, rfl, by simp⟩
end Go.Proofs.Ytomogkhdfaiekaa.PLin
