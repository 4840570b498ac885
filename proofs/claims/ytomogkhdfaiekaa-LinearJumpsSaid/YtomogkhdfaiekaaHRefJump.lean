/-
  The document's Jump is the program's; no walk.
-/
import Derived.Test.YtomogkhdfaiekaaHVec
import Derived.Test.YtomogkhdfaiekaaHChecks
import Derived.Test.YtomogkhdfaiekaaPLinx24
namespace Go.Proofs.Ytomogkhdfaiekaa.PLin
open Go.Proofs.Ytomogkhdfaiekaa.HW Go.Proofs.Ytomogkhdfaiekaa.HSet Go.RowKit Go.Proofs.YtomogkhdfaiekaaW.PrintWords Go.Proofs.YtomogkhdfaiekaaW.PrintLast Go.Proofs.YtomogkhdfaiekaaW.PrintMore
set_option linter.unusedVariables false
set_option linter.unusedSimpArgs false

theorem rmod_eq (a n : Int) (hn : 0 < n) (hn2 : n ≤ 65536) : vivariumref17_mod.f a n = some (a % n) := by
  unfold vivariumref17_mod.f
  rw [if_neg (by omega)]
  have hm : -n < a.tmod n := by
    have := Int.tmod_lt_of_pos (-a) hn
    rw [Int.neg_tmod] at this
    omega
  have hm2 : a.tmod n < n := Int.tmod_lt_of_pos a hn
  have h1 := Int.mul_tdiv_add_tmod a n
  rw [w64 (by omega) (by omega), Int.tmod_eq_emod_of_nonneg (by omega)]
  congr 1
  have e : a.tmod n = a + n * (-(a.tdiv n)) := by rw [Int.mul_neg]; omega
  rw [Int.add_emod_right, e, Int.add_mul_emod_self_left]
theorem rdiv_eq (a n : Int) (hn : 0 < n) (hn2 : n ≤ 65536) (ha : -4611686018427387904 ≤ a ∧ a ≤ 4611686018427387904) : vivariumref17_div.f a n = some (a / n) := by
  unfold vivariumref17_div.f
  rw [rmod_eq a n hn hn2, Option.bind_some, if_neg (by omega)]
  have h1 := Int.emod_nonneg a (show n ≠ 0 by omega)
  have h2 := Int.emod_lt_of_pos a hn
  have h3 := Int.emod_add_mul_ediv a n
  rw [w64 (a := a - a % n) (by omega) (by omega), show a - a % n = n * (a / n) by omega, Int.mul_tdiv_cancel_left _ (by omega)]
  have hb : -4611686018427387904 ≤ a / n ∧ a / n ≤ 4611686018427387904 := by
    refine ⟨Int.le_ediv_of_mul_le hn ?_, Int.ediv_le_of_le_mul hn ?_⟩
    · have := Int.mul_le_mul_of_nonneg_left (show 1 ≤ n by omega) (show (0 : Int) ≤ 4611686018427387904 by omega)
      omega
    · have := Int.mul_le_mul_of_nonneg_left (show 1 ≤ n by omega) (show (0 : Int) ≤ 4611686018427387904 by omega)
      omega
  rw [w64 (by omega) (by omega)]

/-- A place so near that its number can be told. -/
def nearB (p : S25) : Prop := (-1100000000000 ≤ p.f0 ∧ p.f0 ≤ 1100000000000) ∧ -1100000000000 ≤ p.f1 ∧ p.f1 ≤ 1100000000000
section
variable {W H T S : Int} (hv : TV W H T S) (K : Int)
include hv
theorem area : 0 < W * H ∧ W * H ≤ 4294967296 := by
  have h1 := hv.w1; have h2 := hv.w2; have h3 := hv.h1; have h4 := hv.h2
  have a : W * H ≤ 65536 * 65536 := Int.mul_le_mul h2 h4 (by omega) (by omega)
  have b : 0 < W * H := Int.mul_pos (by omega) (by omega)
  omega
theorem place_eq {p : S25} (hp : nearB p) : vivariumref17_Place.f K W H T S p.f0 p.f1 = some (numP W H T S p : Int) := by
  have h1 := hv.w1; have h2 := hv.w2; have h3 := hv.h1; have h4 := hv.h2
  have hA := area hv
  have hN := num_int hv p
  have hC := cellG_home hv p
  have hm : 0 ≤ ((cellG W H T S p).f1 + H / 2) * W := Int.mul_nonneg (by omega) (by omega)
  obtain ⟨⟨p1, p2⟩, p3, p4⟩ := hp
  have hw : Int.tdiv W 2 = W / 2 := Int.tdiv_eq_ediv_of_nonneg (by omega)
  have hh : Int.tdiv H 2 = H / 2 := Int.tdiv_eq_ediv_of_nonneg (by omega)
  unfold vivariumref17_Place.f
  rw [hN.1, hw, hh, w64 (a := W / 2) (by omega) (by omega), w64 (a := H / 2) (by omega) (by omega), w64 (a := p.f0 + W / 2) (by omega) (by omega), w64 (a := p.f1 + H / 2) (by omega) (by omega)]
  by_cases t1 : T = 1
  · have hb := turn_bound (n := H) (S := S) (v := p.f1 + H / 2) (by omega) (by omega) ⟨hv.s1, hv.s2⟩
    have e1 : (cellG W H T S p).f1 + H / 2 = (p.f1 + H / 2) % H := by unfold cellG; rw [if_pos t1]; dsimp only; omega
    have e0 : (cellG W H T S p).f0 + W / 2 = (p.f0 + W / 2 - (p.f1 + H / 2) / H * S) % W := by unfold cellG; rw [if_pos t1]; dsimp only; omega
    rw [e1, e0] at hN
    rw [e1] at hm
    rw [if_pos t1, rdiv_eq _ _ (by omega) (by omega) (by omega), Option.bind_some, rmod_eq _ _ (by omega) (by omega), Option.bind_some, w64 (a := (p.f1 + H / 2) / H * S) (by omega) (by omega), w64 (a := p.f0 + W / 2 - (p.f1 + H / 2) / H * S) (by omega) (by omega), rmod_eq _ _ (by omega) (by omega), Option.bind_some, e1, e0]
    have := Int.emod_nonneg (p.f0 + W / 2 - (p.f1 + H / 2) / H * S) (show W ≠ 0 by omega)
    have := Int.emod_lt_of_pos (p.f0 + W / 2 - (p.f1 + H / 2) / H * S) (show 0 < W by omega)
    rw [w64 (a := (p.f1 + H / 2) % H * W) (by omega) (by omega), w64 (by omega) (by omega)]
  rw [if_neg t1]
  by_cases t2 : T = 2
  · have hb := turn_bound (n := W) (S := S) (v := p.f0 + W / 2) (by omega) (by omega) ⟨hv.s1, hv.s2⟩
    have e0 : (cellG W H T S p).f0 + W / 2 = (p.f0 + W / 2) % W := by unfold cellG; rw [if_neg t1, if_pos t2]; dsimp only; omega
    have e1 : (cellG W H T S p).f1 + H / 2 = (p.f1 + H / 2 - (p.f0 + W / 2) / W * S) % H := by unfold cellG; rw [if_neg t1, if_pos t2]; dsimp only; omega
    rw [e1, e0] at hN
    rw [e1] at hm
    rw [if_pos t2, rdiv_eq _ _ (by omega) (by omega) (by omega), Option.bind_some, w64 (a := (p.f0 + W / 2) / W * S) (by omega) (by omega), w64 (a := p.f1 + H / 2 - (p.f0 + W / 2) / W * S) (by omega) (by omega), rmod_eq _ _ (by omega) (by omega), Option.bind_some, rmod_eq _ _ (by omega) (by omega), Option.bind_some, e1, e0]
    have := Int.emod_nonneg (p.f0 + W / 2) (show W ≠ 0 by omega)
    have := Int.emod_lt_of_pos (p.f0 + W / 2) (show 0 < W by omega)
    rw [w64 (a := (p.f1 + H / 2 - (p.f0 + W / 2) / W * S) % H * W) (by omega) (by omega), w64 (by omega) (by omega)]
  · have e0 : (cellG W H T S p).f0 + W / 2 = (p.f0 + W / 2) % W := by unfold cellG; rw [if_neg t1, if_neg t2]; dsimp only; omega
    have e1 : (cellG W H T S p).f1 + H / 2 = (p.f1 + H / 2) % H := by unfold cellG; rw [if_neg t1, if_neg t2]; dsimp only; omega
    rw [e1, e0] at hN
    rw [e1] at hm
    rw [if_neg t2, rmod_eq _ _ (by omega) (by omega), Option.bind_some, rmod_eq _ _ (by omega) (by omega), Option.bind_some, e1, e0]
    have := Int.emod_nonneg (p.f0 + W / 2) (show W ≠ 0 by omega)
    have := Int.emod_lt_of_pos (p.f0 + W / 2) (show 0 < W by omega)
    rw [w64 (a := (p.f1 + H / 2) % H * W) (by omega) (by omega), w64 (by omega) (by omega)]
theorem at_eq (n : Nat) (hn : n < 9223372036854000000) : vivariumref17_at.f K W H T S (n : Int) = some ((atP W H n).f0, (atP W H n).f1) := by
  have h1 := hv.w1; have h2 := hv.w2; have h3 := hv.h1; have h4 := hv.h2
  unfold vivariumref17_at.f atP
  have hw : Int.tdiv W 2 = W / 2 := Int.tdiv_eq_ediv_of_nonneg (by omega)
  have hh : Int.tdiv H 2 = H / 2 := Int.tdiv_eq_ediv_of_nonneg (by omega)
  have a1 := Int.emod_nonneg (n : Int) (show W ≠ 0 by omega)
  have a2 := Int.emod_lt_of_pos (n : Int) (show 0 < W by omega)
  have a3 : (n : Int) / W ≤ n := Int.ediv_le_self _ (by omega)
  have a4 : 0 ≤ (n : Int) / W := Int.ediv_nonneg (by omega) (by omega)
  rw [if_neg (by omega), hw, hh, Int.tmod_eq_emod_of_nonneg (by omega), Int.tdiv_eq_ediv_of_nonneg (by omega), w64 (a := W / 2) (by omega) (by omega), w64 (a := H / 2) (by omega) (by omega), w64 (a := (n : Int) / W) (by omega) (by omega), w64 (by omega) (by omega), w64 (by omega) (by omega)]
theorem list_loop (V : List Bool) (hV : V.length < 4294967298) : ∀ m i : Nat, m + i = V.length → ∀ out : List S25, out.length ≤ i → Ev (fun k => vivariumref17_list.l0 k V out (i : Int) K W H T S) (out ++ ((List.range' i m).filter fun (n : Nat) => rdOf false V (n : Int)).map (atP W H))
  | 0, i, h, out, ho => by
    refine ev_now fun k => ?_
    rw [vivariumref17_list.l0, if_neg (by omega)]; simp
  | m + 1, i, h, out, ho => by
    rw [List.range'_succ]
    by_cases c : rdOf false V (i : Int) = true
    · rw [List.filter_cons_of_pos (by exact c), List.map_cons]
      refine evs (fun k => ?_) (by rw [show out ++ atP W H i :: ((List.range' (i + 1) m).filter fun (n : Nat) => rdOf false V (n : Int)).map (atP W H) = (out ++ [atP W H i]) ++ ((List.range' (i + 1) m).filter fun (n : Nat) => rdOf false V (n : Int)).map (atP W H) by simp]; exact list_loop V hV m (i + 1) (by omega) (out ++ [atP W H i]) (by simp; omega))
      rw [vivariumref17_list.l0, if_pos (by omega), if_pos (by omega), if_pos c, at_eq hv K i (by omega), Option.bind_some, if_pos (by omega), w64 (by omega) (by omega)]; rfl
    · rw [List.filter_cons_of_neg (by exact c)]
      refine evs (fun k => ?_) (list_loop V hV m (i + 1) (by omega) out (by omega))
      rw [vivariumref17_list.l0, if_pos (by omega), if_pos (by omega), if_neg c, w64 (by omega) (by omega)]; rfl
theorem ev_list (V : List Bool) (hV : V.length < 4294967298) : Ev (fun k => vivariumref17_list.f k K W H T S V) (listV W H V) := by
  have := list_loop hv K V hV V.length 0 (by omega) [] (by simp)
  rw [List.nil_append, ← List.range_eq_range'] at this
  exact this
/-! ### One generation -/
theorem near_home {p d : S25} (hp : hasB W H p = true) (hd : nearP d = true) : nearB (addP p d) := by
  have h1 := hv.w1; have h2 := hv.w2; have h3 := hv.h1; have h4 := hv.h2
  unfold hasB at hp
  unfold nearP nearN at hd
  simp only [Bool.and_eq_true, decide_eq_true_eq] at hp hd
  unfold nearB addP
  dsimp only; omega
omit hv in
theorem turn_set {V : List Bool} (n : Nat) : V.set (n : Int).toNat (!(rdOf false V (n : Int))) = turn true V n := by unfold turn; rw [if_pos rfl, Int.toNat_natCast]
theorem next_l1 (D : List S25) (hD : ∀ d ∈ D, nearP d = true) (hDl : D.length < 9223372036854775807) (V : List Bool) (hV : V.length = (W * H).toNat) (n : Nat) (hn : n < (W * H).toNat) (r : List Bool) : ∀ m i : Nat, m + i = D.length → ∀ out : List Bool, out.length = (W * H).toNat →
    Ev (fun k => vivariumref17_next.l0 k D V (turn (par (D.drop i) fun d => rdOf false V (numP W H T S (addP (atP W H n) d) : Int)) out n) ((n : Int) + 1) K W H T S) r →
    Ev (fun k => vivariumref17_next.l1 k D V out (n : Int) (i : Int) K W H T S (atP W H n).f0 (atP W H n).f1) r
  | 0, i, h, out, ho, hr => by
    have hA := area hv
    rw [List.drop_eq_nil_of_le (by omega)] at hr
    refine evs (fun k => ?_) hr
    rw [vivariumref17_next.l1, if_neg (by omega), w64 (by omega) (by omega)]; rfl
  | m + 1, i, h, out, ho, hr => by
    have hA := area hv
    have hnb := near_home hv (at_home hv hn) (hD _ (rd_mem D i (by omega) i rfl))
    have hpl := place_eq hv K hnb
    unfold addP at hpl
    dsimp only at hpl
    obtain ⟨⟨q1, q2⟩, q3, q4⟩ := hnb
    unfold addP at q1 q2 q3 q4
    dsimp only at q1 q2 q3 q4
    have hlt := num_lt hv (addP (atP W H n) (rd_T25 D (i : Int)))
    rw [rd_drop D i (by omega)] at hr
    have e : ∀ k, vivariumref17_next.l1 (k + 1) D V out (n : Int) (i : Int) K W H T S (atP W H n).f0 (atP W H n).f1 = vivariumref17_next.l1 k D V (turn (rdOf false V (numP W H T S (addP (atP W H n) (rd_T25 D (i : Int))) : Int)) out n) (n : Int) ((i + 1 : Nat) : Int) K W H T S (atP W H n).f0 (atP W H n).f1 := fun k => by
      rw [vivariumref17_next.l1, if_pos (by omega), if_pos (by omega), w64 (a := (atP W H n).f0 + (rd_T25 D (i : Int)).f0) (by omega) (by omega), w64 (a := (atP W H n).f1 + (rd_T25 D (i : Int)).f1) (by omega) (by omega), hpl, Option.bind_some]
      rw [show (⟨(atP W H n).f0 + (rd_T25 D (i : Int)).f0, (atP W H n).f1 + (rd_T25 D (i : Int)).f1⟩ : S25) = addP (atP W H n) (rd_T25 D (i : Int)) from rfl]
      rw [if_pos (by omega), if_pos (by omega), if_pos (by omega : (0 : Int) ≤ (n : Int)), if_pos (by omega : (n : Int) < (out.length : Int)), w64 (a := (i : Int) + 1) (by omega) (by omega), turn_set]
      cases rdOf false V (numP W H T S (addP (atP W H n) (rd_T25 D (i : Int))) : Int)
      · rw [if_neg (by decide)]; rfl
      · rw [if_pos rfl]; rfl
    refine evs e (next_l1 D hD hDl V hV n hn r m (i + 1) (by omega) _ (by rw [turn_length]; exact ho) ?_)
    rw [turn_turn _ _ _ _ (by omega)]
    exact hr
theorem next_l0 (D : List S25) (hD : ∀ d ∈ D, nearP d = true) (hDl : D.length < 9223372036854775807) (V : List Bool) (hV : V.length = (W * H).toNat) : ∀ m n : Nat, m + n = (W * H).toNat → ∀ out : List Bool, out.length = (W * H).toNat →
    Ev (fun k => vivariumref17_next.l0 k D V out (n : Int) K W H T S) (turns (fun (n : Nat) => par D fun d => rdOf false V (numP W H T S (addP (atP W H n) d) : Int)) id (List.range' n m) out)
  | 0, n, h, out, ho => by
    refine ev_now fun k => ?_
    rw [vivariumref17_next.l0, if_neg (by omega)]; rfl
  | m + 1, n, h, out, ho => by
    have hA := area hv
    refine evs (fun k => ?_) (next_l1 hv K D hD hDl V hV n (by omega) _ D.length 0 (by omega) out ho (next_l0 D hD hDl V hV m (n + 1) (by omega) _ (by rw [turn_length]; exact ho)))
    rw [vivariumref17_next.l0, if_pos (by omega), at_eq hv K n (by omega), Option.bind_some]; rfl
theorem ev_next (D : List S25) (hD : ∀ d ∈ D, nearP d = true) (hDl : D.length < 9223372036854775807) (V : List Bool) (hV : V.length = (W * H).toNat) : Ev (fun k => vivariumref17_next.f k K W H T S D V) (nextV W H T S D V) := by
  have hA := area hv
  have := next_l0 hv K D hD hDl V hV (W * H).toNat 0 (by omega) (zeroV W H) (by rw [zeroV_length])
  rw [← List.range_eq_range'] at this
  refine Ev.congr (fun k => ?_) this
  unfold vivariumref17_next.f
  rw [if_pos (by omega), if_pos (by omega), Int.toNat_natCast, hV]; rfl

/-! ### n generations of one cell -/
theorem power_l0 (D : List S25) (V : List Bool) (hV : V.length = (W * H).toNat) (n : Nat) (r : List Bool) : ∀ m i : Nat, m + i = (W * H).toNat → ∀ out : List Bool, out.length = (W * H).toNat →
    Ev (fun k => if Int.tmod (n : Int) 2 = 1 then (vivariumref17_next.f k K W H T S D (turns (fun (n : Nat) => rdOf false V (n : Int)) (fun n => numP W H T S (dbl (atP W H n))) (List.range' i m) out)).bind fun t => some t else some (turns (fun (n : Nat) => rdOf false V (n : Int)) (fun n => numP W H T S (dbl (atP W H n))) (List.range' i m) out)) r →
    Ev (fun k => vivariumref17_power.l0 k D (n : Int) out V (i : Int) K W H T S) r
  | 0, i, h, out, ho, hr => by
    have hA := area hv
    refine evs (fun k => ?_) hr
    rw [vivariumref17_power.l0, if_neg (by omega)]; rfl
  | m + 1, i, h, out, ho, hr => by
    have hA := area hv
    have hw2 := hv.w2; have hh2 := hv.h2; have hw1 := hv.w1; have hh1 := hv.h1
    have hi : i < (W * H).toNat := by omega
    have hH := at_home hv hi
    unfold hasB at hH
    rw [Bool.and_eq_true, decide_eq_true_eq, decide_eq_true_eq] at hH
    have hpl := place_eq hv K (p := dbl (atP W H i)) (by unfold nearB dbl; dsimp only; omega)
    have hlt := num_lt hv (dbl (atP W H i))
    rw [List.range'_succ] at hr
    have e : ∀ k, vivariumref17_power.l0 (k + 1) D (n : Int) out V (i : Int) K W H T S = vivariumref17_power.l0 k D (n : Int) (turn (rdOf false V (i : Int)) out (numP W H T S (dbl (atP W H i)))) V ((i + 1 : Nat) : Int) K W H T S := fun k => by
      rw [vivariumref17_power.l0, if_pos (by omega), if_pos (by omega), w64 (a := (i : Int) + 1) (by omega) (by omega)]
      by_cases c : rdOf false V (i : Int) = true
      · rw [if_pos c, at_eq hv K i (by omega), Option.bind_some]
        dsimp only
        rw [w64 (a := 2 * (atP W H i).f0) (by omega) (by omega), w64 (a := 2 * (atP W H i).f1) (by omega) (by omega)]
        unfold dbl at hpl
        dsimp only at hpl
        rw [hpl, Option.bind_some, show (⟨2 * (atP W H i).f0, 2 * (atP W H i).f1⟩ : S25) = dbl (atP W H i) from rfl, if_pos (by omega), if_pos (by omega), turn_set, c]; rfl
      · rw [if_neg c, Bool.eq_false_iff.mpr c]; rfl
    exact evs e (power_l0 D V hV n r m (i + 1) (by omega) _ (by rw [turn_length]; exact ho) hr)
theorem ev_power (D : List S25) (hD : ∀ d ∈ D, nearP d = true) (hDl : D.length < 9223372036854775807) (n : Nat) : n < 9223372036854775807 → Ev (fun k => vivariumref17_power.f k K W H T S D (n : Int)) (powV W H T S D n) := by
  have hA := area hv
  have hz : List.replicate (W * H).toNat false = zeroV W H := rfl
  induction n using Nat.strongRecOn with
  | _ n ih =>
    intro hn
    rw [powV]
    by_cases h0 : n = 0
    · rw [dif_pos h0]
      subst h0
      have hpl := place_eq hv K (p := ⟨0, 0⟩) (by unfold nearB; dsimp only; omega)
      have hlt := num_lt hv ⟨0, 0⟩
      refine ev_now fun k => ?_
      rw [vivariumref17_power.f, w64 (by omega) (by omega), if_pos (by omega), if_pos (by omega), hz, Option.bind_some, if_pos (by simp)]
      dsimp only at hpl
      rw [hpl, Option.bind_some, if_pos (by omega), if_pos (by rw [zeroV_length]; omega)]
      unfold turn
      rw [if_pos rfl, Int.toNat_natCast]
      have : rdOf false (zeroV W H) (numP W H T S ⟨0, 0⟩ : Int) = false := by
        rw [rd_nat, zeroV, List.getD_eq_getElem?_getD, List.getElem?_replicate]; split <;> rfl
      rw [this]; rfl
    · rw [dif_neg h0]
      have hh := ih (n / 2) (by omega) (by omega)
      have e2 : Int.tdiv (n : Int) 2 = ((n / 2 : Nat) : Int) := by rw [Int.tdiv_eq_ediv_of_nonneg (by omega)]; omega
      refine evs (f := fun k => (vivariumref17_power.f k K W H T S D ((n / 2 : Nat) : Int)).bind fun t => vivariumref17_power.l0 k D (n : Int) (zeroV W H) t 0 K W H T S) (fun k => ?_) (Ev.bind hh (power_l0 hv K D _ (powV_length D _) n _ (W * H).toNat 0 (by omega) (zeroV W H) (by rw [zeroV_length]) ?_))
      · rw [vivariumref17_power.f, w64 (a := W * H) (by omega) (by omega), if_pos (by omega), if_pos (by omega), hz, Option.bind_some, if_neg (by omega), e2, w64 (by omega) (by omega)]
      · rw [← List.range_eq_range']
        have e3 : Int.tmod (n : Int) 2 = ((n % 2 : Nat) : Int) := by rw [Int.tmod_eq_emod_of_nonneg (by omega)]; omega
        by_cases h1 : n % 2 = 1
        · rw [if_pos h1, e3, h1]
          refine Ev.congr (fun k => if_pos rfl) (Ev.bind (ev_next hv K D hD hDl _ (dblV_length _)) (Ev.now _))
        · rw [if_neg h1]
          exact Ev.congr (fun k => if_neg (by omega)) (Ev.now _)

/-! ### The jump -/
theorem jump_l1 (L M : List S25) (hL : ∀ p ∈ L, hasB W H p = true) (hM : ∀ p ∈ M, hasB W H p = true) (hMl : M.length < 9223372036854775807) (hLl : L.length < 9223372036854775807) (i : Nat) (hi : i < L.length) (r : List S25 × Int) : ∀ m j : Nat, m + j = M.length → ∀ out : List Bool, out.length = (W * H).toNat →
    Ev (fun k => vivariumref17_Jump.l0 k L M (turns (fun _ => true) (fun p => numP W H T S p) ((M.drop j).map fun o => addP (rd_T25 L (i : Int)) o) out) ((i + 1 : Nat) : Int) K W H T S) r →
    Ev (fun k => vivariumref17_Jump.l1 k L M out (i : Int) (j : Int) K W H T S) r
  | 0, j, h, out, ho, hr => by
    rw [List.drop_eq_nil_of_le (by omega)] at hr
    refine evs (fun k => ?_) hr
    rw [vivariumref17_Jump.l1, if_neg (by omega), w64 (by omega) (by omega)]; rfl
  | m + 1, j, h, out, ho, hr => by
    have hw2 := hv.w2; have hh2 := hv.h2; have hw1 := hv.w1; have hh1 := hv.h1
    have hA := area hv
    have h1 := hL _ (rd_mem L i hi i rfl)
    have h2 := hM _ (rd_mem M j (by omega) j rfl)
    unfold hasB at h1 h2
    simp only [Bool.and_eq_true, decide_eq_true_eq] at h1 h2
    have hpl := place_eq hv K (p := addP (rd_T25 L (i : Int)) (rd_T25 M (j : Int))) (by unfold nearB addP; dsimp only; omega)
    have hlt := num_lt hv (addP (rd_T25 L (i : Int)) (rd_T25 M (j : Int)))
    unfold addP at hpl
    dsimp only at hpl
    rw [rd_drop M j (by omega), List.map_cons] at hr
    have e : ∀ k, vivariumref17_Jump.l1 (k + 1) L M out (i : Int) (j : Int) K W H T S = vivariumref17_Jump.l1 k L M (turn true out (numP W H T S (addP (rd_T25 L (i : Int)) (rd_T25 M (j : Int))))) (i : Int) ((j + 1 : Nat) : Int) K W H T S := fun k => by
      rw [vivariumref17_Jump.l1, if_pos (by omega), if_pos (by omega), if_pos (by omega : (i : Int) < (L.length : Int)), if_pos (by omega : (0 : Int) ≤ (j : Int)), w64 (a := (rd_T25 L (i : Int)).f0 + (rd_T25 M (j : Int)).f0) (by omega) (by omega), w64 (a := (rd_T25 L (i : Int)).f1 + (rd_T25 M (j : Int)).f1) (by omega) (by omega), hpl, Option.bind_some]
      rw [show (⟨(rd_T25 L (i : Int)).f0 + (rd_T25 M (j : Int)).f0, (rd_T25 L (i : Int)).f1 + (rd_T25 M (j : Int)).f1⟩ : S25) = addP (rd_T25 L (i : Int)) (rd_T25 M (j : Int)) from rfl]
      rw [if_pos (by omega), if_pos (by omega), turn_set, w64 (by omega) (by omega)]; rfl
    exact evs e (jump_l1 L M hL hM hMl hLl i hi r m (j + 1) (by omega) _ (by rw [turn_length]; exact ho) hr)
theorem jump_l0 (L M : List S25) (hL : ∀ p ∈ L, hasB W H p = true) (hM : ∀ p ∈ M, hasB W H p = true) (hMl : M.length < 9223372036854775807) (hLl : L.length < 9223372036854775807) : ∀ m i : Nat, m + i = L.length → ∀ out : List Bool, out.length = (W * H).toNat →
    Ev (fun k => vivariumref17_Jump.l0 k L M out (i : Int) K W H T S) (listV W H (turns (fun _ => true) (fun p => numP W H T S p) ((L.drop i).flatMap fun c => M.map fun o => addP c o) out), 0)
  | 0, i, h, out, ho => by
    have hA := area hv
    rw [List.drop_eq_nil_of_le (by omega)]
    refine evs (f := fun k => (vivariumref17_list.f k K W H T S out).bind fun t => some (t, 0)) (fun k => ?_) (Ev.bind (ev_list hv K out (by omega)) (Ev.now _))
    rw [vivariumref17_Jump.l0, if_neg (by omega)]
  | m + 1, i, h, out, ho => by
    rw [rd_drop L i (by omega), List.flatMap_cons]
    have e : turns (fun _ => true) (fun p => numP W H T S p) (((M.map fun o => addP (rd_T25 L (i : Int)) o)) ++ (L.drop (i + 1)).flatMap fun c => M.map fun o => addP c o) out
        = turns (fun _ => true) (fun p => numP W H T S p) ((L.drop (i + 1)).flatMap fun c => M.map fun o => addP c o) (turns (fun _ => true) (fun p => numP W H T S p) (M.map fun o => addP (rd_T25 L (i : Int)) o) out) := by unfold turns; rw [List.foldl_append]
    rw [e]
    refine evs (fun k => ?_) (jump_l1 hv K L M hL hM hMl hLl i (by omega) _ M.length 0 (by omega) out ho (jump_l0 L M hL hM hMl hLl m (i + 1) (by omega) _ (by rw [turns_length]; exact ho)))
    rw [vivariumref17_Jump.l0, if_pos (by omega)]; rfl
end

/-! ### What is wrong -/
theorem torus_same (k : Nat) (K W H T S : Int) : ∀ j, vivariumref17_torus.f j K W H T S = linear_torus.f k K W H T S := fun j => by
  unfold vivariumref17_torus.f torusC linear_torus.f topo_Check.f
  rw [Option.bind_some]
  by_cases c : checkC K W H T S = 0
  · rw [if_pos c, if_pos c]
    by_cases k2 : K = 2
    · rw [if_pos k2, if_pos k2]
      by_cases w0 : W = 0
      · rw [if_pos w0, if_pos (Or.inl w0)]
      · rw [if_neg w0]
        by_cases h0 : H = 0
        · rw [if_pos h0, if_pos (Or.inr h0)]
        · rw [if_neg h0, if_neg (by omega)]
    · rw [if_neg k2, if_neg k2]
  · rw [if_neg c, if_neg c]
theorem asked_l0 {W H T S : Int} (hv : TV W H T S) (K : Int) (L : List S25) (hl : L.length < 9223372036854775807) : ∀ m i : Nat, m + i = L.length → (L.take i).all (hasB W H) = true → Ev (fun k => vivariumref17_asked.l0 k L (i : Int) K W H T S) (if L.all (hasB W H) = true then (if L.Nodup then 0 else 6) else 130)
  | 0, i, h, ha => by
    rw [List.take_of_length_le (by omega)] at ha
    rw [if_pos ha]
    refine evs (f := fun k => (vivariumref17_twice.f k L).bind fun t => if t = true then some 6 else some 0) (fun k => ?_) (Ev.bind (ev_twice L hl) ?_)
    · rw [vivariumref17_asked.l0, if_neg (by omega)]
    · by_cases hn : L.Nodup
      · exact Ev.congr (fun k => by simp [hn]) (Ev.now _)
      · exact Ev.congr (fun k => by simp [hn]) (Ev.now _)
  | m + 1, i, h, ha => by
    have h1 := hv.w1; have h2 := hv.w2; have h3 := hv.h1; have h4 := hv.h2
    have hts : (L.take (i + 1)).all (hasB W H) = ((L.take i).all (hasB W H) && hasB W H (rd_T25 L (i : Int))) := by rw [take_succ_rd L i (by omega), List.all_append]; simp
    have hw : Int.tdiv W 2 = W / 2 := Int.tdiv_eq_ediv_of_nonneg (by omega)
    have hh : Int.tdiv H 2 = H / 2 := Int.tdiv_eq_ediv_of_nonneg (by omega)
    by_cases c : hasB W H (rd_T25 L (i : Int)) = true
    · have c' := c
      unfold hasB at c'
      rw [Bool.and_eq_true, decide_eq_true_eq, decide_eq_true_eq] at c'
      refine evs (fun k => ?_) (asked_l0 hv K L hl m (i + 1) (by omega) (by rw [hts, ha, Bool.true_and]; exact c))
      rw [vivariumref17_asked.l0, if_pos (by omega), if_pos (by omega), hw, hh, w64 (a := W / 2) (by omega) (by omega), w64 (a := H / 2) (by omega) (by omega), w64 (a := -(W / 2)) (by omega) (by omega), w64 (a := W - W / 2) (by omega) (by omega), w64 (a := -(H / 2)) (by omega) (by omega), w64 (a := H - H / 2) (by omega) (by omega), if_neg (by omega), if_neg (by omega), if_neg (by omega), if_neg (by omega), w64 (by omega) (by omega)]; rfl
    · have hno : ¬ L.all (hasB W H) = true := fun hall => c (List.all_eq_true.1 hall _ (rd_mem L i (by omega) i rfl))
      rw [if_neg hno]
      refine ev_now fun k => ?_
      unfold hasB at c
      rw [Bool.and_eq_true, decide_eq_true_eq, decide_eq_true_eq] at c
      rw [vivariumref17_asked.l0, if_pos (by omega), if_pos (by omega), hw, hh, w64 (a := W / 2) (by omega) (by omega), w64 (a := H / 2) (by omega) (by omega), w64 (a := -(W / 2)) (by omega) (by omega), w64 (a := W - W / 2) (by omega) (by omega), w64 (a := -(H / 2)) (by omega) (by omega), w64 (a := H - H / 2) (by omega) (by omega)]
      by_cases c1 : (rd_T25 L (i : Int)).f0 < -(W / 2)
      · rw [if_pos c1]
      rw [if_neg c1]
      by_cases c2 : (rd_T25 L (i : Int)).f0 ≥ W - W / 2
      · rw [if_pos c2]
      rw [if_neg c2]
      by_cases c3 : (rd_T25 L (i : Int)).f1 < -(H / 2)
      · rw [if_pos c3]
      rw [if_neg c3, if_pos (by omega)]

theorem torus_any (K W H T S : Int) : linear_torus.f 8 K W H T S = some (torusC K W H T S) := (torus_same 8 K W H T S 0).symm
/-- The document's jump is the program's. -/
theorem ev_refJump (K W H T S : Int) (D L : List S25) (n : Int) (hDl : D.length < 9223372036854775807) (hLl : L.length < 9223372036854775807) :
    ∃ r, linear_Jump.f K W H T S D L n = some r ∧ Ev (fun k => vivariumref17_Jump.f k K W H T S D L n) r := by
  obtain ⟨e1, hc, ec⟩ := ev_Check D hDl
  have ht := torus_any K W H T S
  unfold linear_Jump.f
  rw [ht, Option.bind_some, hc, Option.bind_some]
  have hask : ∀ a, Ev (fun k => vivariumref17_asked.f k K W H T S D L) a → ∀ r, Ev (fun k => if a = 0 then ((vivariumref17_number.f n).bind fun t362 => (if t362 = 0 then (if (wrap64 (W * H)) > 1048576 then (some (([] : List (S25)), 4)) else ((vivariumref17_power.f k K W H T S D n).bind fun t363 => ((vivariumref17_list.f k K W H T S t363).bind fun t366 => (if 0 ≤ (wrap64 (W * H)) then (if (wrap64 (W * H) : Int).toNat ≤ 281474976710656 then (vivariumref17_Jump.l0 k L t366 (List.replicate (wrap64 (W * H) : Int).toNat false) 0 K W H T S) else (none)) else (none))))) else (some (([] : List (S25)), t362)))) else (some (([] : List (S25)), a))) r → Ev (fun k => vivariumref17_Jump.f k K W H T S D L n) r := fun a ha r hr => Ev.bind ha hr
  by_cases c0 : torusC K W H T S = 0
  case neg =>
    refine ⟨([], torusC K W H T S), if_neg c0, hask (torusC K W H T S) ?_ _ (Ev.congr (fun k => if_neg c0) (Ev.now _))⟩
    refine Ev.congr (fun k => ?_) (Ev.now _)
    unfold vivariumref17_asked.f vivariumref17_torus.f
    rw [Option.bind_some, if_neg c0]
  have hv : TV W H T S := (torus_ok (K := K) (by rw [ht, c0])).2.2
  rw [if_pos c0]
  have hask0 : ∀ a, Ev (fun k => if e1 = 0 then vivariumref17_asked.l0 k L 0 K W H T S else some e1) a → Ev (fun k => vivariumref17_asked.f k K W H T S D L) a := fun a ha => by
    refine Ev.congr (f := fun k => (vivariumref17_Check.f k D).bind fun t304 => if t304 = 0 then vivariumref17_asked.l0 k L 0 K W H T S else some t304) (fun k => ?_) (Ev.bind ec ha)
    unfold vivariumref17_asked.f vivariumref17_torus.f
    rw [Option.bind_some, if_pos c0]
  by_cases c1 : e1 = 0
  case neg => exact ⟨([], e1), if_neg c1, hask e1 (hask0 e1 (Ev.congr (fun k => if_neg c1) (Ev.now _))) _ (Ev.congr (fun k => if_neg c1) (Ev.now _))⟩
  rw [if_pos c1]
  have hask1 := hask0 _ (Ev.congr (fun k => if_pos c1) (asked_l0 hv K L hLl L.length 0 (by omega) (by simp)))
  by_cases c2 : L.all (hasB W H) = true
  case neg =>
    rw [if_neg c2] at hask1
    exact ⟨([], 130), if_neg c2, hask _ hask1 _ (Ev.congr (fun k => if_neg (by decide)) (Ev.now _))⟩
  rw [if_pos c2] at hask1 ⊢
  by_cases c3 : L.Nodup
  case neg =>
    rw [if_neg c3] at hask1
    exact ⟨([], 6), if_neg c3, hask _ hask1 _ (Ev.congr (fun k => if_neg (by decide)) (Ev.now _))⟩
  rw [if_pos c3] at hask1 ⊢
  refine ⟨_, rfl, hask _ hask1 _ (Ev.congr (fun k => if_pos rfl) ?_)⟩
  have hA := area hv
  unfold jumpE vivariumref17_number.f
  by_cases n0 : n < 0
  · exact Ev.congr (fun k => by rw [if_pos n0, if_pos n0, Option.bind_some, if_neg (by decide)]) (Ev.now _)
  by_cases n1 : n > 1125899906842624
  · exact Ev.congr (fun k => by rw [if_neg n0, if_neg n0, if_pos n1, if_pos n1, Option.bind_some, if_neg (by decide)]) (Ev.now _)
  by_cases n2 : W * H > 1048576
  · exact Ev.congr (fun k => by rw [if_neg n0, if_neg n0, if_neg n1, if_neg n1, Option.bind_some, if_pos rfl, w64 (by omega) (by omega), if_pos n2, if_pos n2]) (Ev.now _)
  obtain ⟨j, rfl⟩ : ∃ j : Nat, n = j := ⟨n.toNat, by omega⟩
  obtain ⟨cl, ca, cn⟩ := check_zero (c1 ▸ hc)
  have hpw := ev_power hv K D ca (by omega) j (by omega)
  have hls := ev_list hv K (powV W H T S D j) (by rw [powV_length]; omega)
  have hhome := listV_home hv (powV_length (W := W) (H := H) (T := T) (S := S) D j)
  have hlen : (listV W H (powV W H T S D j)).length ≤ (W * H).toNat := by
    unfold listV
    rw [List.length_map]
    refine Nat.le_trans (List.length_filter_le _ _) ?_
    rw [List.length_range, powV_length]
    exact Nat.le_refl _
  have hj := jump_l0 hv K L (listV W H (powV W H T S D j)) (List.all_eq_true.1 c2) hhome (by omega) hLl L.length 0 (by omega) (zeroV W H) (by rw [zeroV_length])
  have hm := many_jump hv D j c3 (List.all_eq_true.1 c2)
  unfold manyV at hm
  rw [List.drop_zero, hm] at hj
  rw [if_neg n0, if_neg n0, if_neg n1, if_neg n1, if_neg n2, Int.toNat_natCast]
  refine Ev.congr (f := fun k => (vivariumref17_power.f k K W H T S D (j : Int)).bind fun t363 => (vivariumref17_list.f k K W H T S t363).bind fun t366 => vivariumref17_Jump.l0 k L t366 (zeroV W H) 0 K W H T S) (fun k => ?_) (Ev.bind hpw (Ev.bind hls hj))
  rw [Option.bind_some, if_pos rfl, w64 (a := W * H) (by omega) (by omega), if_neg n2]
  simp only [if_pos (show 0 ≤ W * H by omega), if_pos (show (W * H).toNat ≤ 281474976710656 by omega)]; rfl
end Go.Proofs.Ytomogkhdfaiekaa.PLin
