/-
  Sets of cells as lists of truth values, by rows; their parities. No walk.
-/
import Derived.Test.YtomogkhdfaiekaaHMath
namespace Go.Proofs.Ytomogkhdfaiekaa.PLin
open Go.Proofs.Ytomogkhdfaiekaa.HW Go.Proofs.Ytomogkhdfaiekaa.HSet Go.RowKit Go.Proofs.YtomogkhdfaiekaaW.PrintWords Go.Proofs.YtomogkhdfaiekaaW.PrintLast Go.Proofs.YtomogkhdfaiekaaW.PrintMore
set_option linter.unusedVariables false
set_option linter.unusedSimpArgs false

def dbl (p : S25) : S25 := ⟨2 * p.f0, 2 * p.f1⟩
def atP (W H : Int) (n : Nat) : S25 := ⟨(n : Int) % W - W / 2, (n : Int) / W - H / 2⟩
def numP (W H T S : Int) (p : S25) : Nat := (((cellG W H T S p).f1 + H / 2) * W + ((cellG W H T S p).f0 + W / 2)).toNat

theorem num_int {W H T S : Int} (hv : TV W H T S) (p : S25) : (numP W H T S p : Int) = ((cellG W H T S p).f1 + H / 2) * W + ((cellG W H T S p).f0 + W / 2) ∧ ((cellG W H T S p).f1 + H / 2) * W + ((cellG W H T S p).f0 + W / 2) < W * H := by
  have hc := cellG_home hv p
  have hw := hv.w1; have hh := hv.h1
  have h1 : 0 ≤ ((cellG W H T S p).f1 + H / 2) * W := Int.mul_nonneg (by omega) (by omega)
  have h2 : ((cellG W H T S p).f1 + H / 2) * W ≤ (H - 1) * W := Int.mul_le_mul_of_nonneg_right (by omega) (by omega)
  rw [Int.sub_mul, Int.mul_comm H W] at h2
  refine ⟨?_, by omega⟩
  unfold numP
  omega
theorem num_lt {W H T S : Int} (hv : TV W H T S) (p : S25) : numP W H T S p < (W * H).toNat := by
  have := num_int hv p
  omega
theorem at_num {W H T S : Int} (hv : TV W H T S) (p : S25) : atP W H (numP W H T S p) = cellG W H T S p := by
  have hc := cellG_home hv p
  have hw := hv.w1
  have h := (Int.ediv_emod_unique (a := (numP W H T S p : Int)) (b := W) (r := (cellG W H T S p).f0 + W / 2) (q := (cellG W H T S p).f1 + H / 2) (by omega)).2 ⟨by rw [(num_int hv p).1, Int.mul_comm]; omega, by omega, by omega⟩
  rw [S25.ext_iff']
  unfold atP
  dsimp only
  rw [h.1, h.2]
  omega
theorem at_home {W H T S : Int} (hv : TV W H T S) {n : Nat} (hn : n < (W * H).toNat) : hasB W H (atP W H n) = true := by
  have hw := hv.w1
  have h1 := Int.emod_nonneg (n : Int) (show W ≠ 0 by omega)
  have h2 := Int.emod_lt_of_pos (n : Int) (show 0 < W by omega)
  have h3 : (n : Int) / W < H := Int.ediv_lt_of_lt_mul (by omega) (by rw [Int.mul_comm]; omega)
  have h4 : 0 ≤ (n : Int) / W := Int.ediv_nonneg (by omega) (by omega)
  unfold hasB atP
  rw [Bool.and_eq_true, decide_eq_true_eq, decide_eq_true_eq]
  dsimp only
  omega
theorem num_at {W H T S : Int} (hv : TV W H T S) {n : Nat} (hn : n < (W * H).toNat) : numP W H T S (atP W H n) = n := by
  have h := (num_int hv (atP W H n)).1
  rw [cell_home hv (at_home hv hn)] at h
  rw [show (atP W H n).f1 = (n : Int) / W - H / 2 from rfl, show (atP W H n).f0 = (n : Int) % W - W / 2 from rfl] at h
  have e := Int.emod_add_mul_ediv (n : Int) W
  rw [Int.mul_comm W] at e
  rw [show (n : Int) / W - H / 2 + H / 2 = (n : Int) / W by omega] at h
  omega

/-! ### Lists of truth values -/
def parV (W H : Int) (V : List Bool) (G : S25 → Bool) : Bool := par (List.range V.length) fun n => rdOf false V (n : Int) && G (atP W H n)
def listV (W H : Int) (V : List Bool) : List S25 := ((List.range V.length).filter fun (n : Nat) => rdOf false V (n : Int)).map (atP W H)
theorem par_listV (W H : Int) (V : List Bool) (G : S25 → Bool) : par (listV W H V) G = parV W H V G := by
  unfold listV parV
  rw [par_map, par_filter]
/-- A place of a list turned, if so. -/
def turn (c : Bool) (V : List Bool) (q : Nat) : List Bool := if c = true then V.set q (!rdOf false V (q : Int)) else V
theorem turn_length (c : Bool) (V : List Bool) (q : Nat) : (turn c V q).length = V.length := by unfold turn; split <;> simp
theorem rd_nat (V : List Bool) (n : Nat) : rdOf false V (n : Int) = V.getD n false := by unfold rdOf; rw [Int.toNat_natCast]
theorem rd_turn (c : Bool) (V : List Bool) (q n : Nat) (hq : q < V.length) : rdOf false (turn c V q) (n : Int) = xor (rdOf false V (n : Int)) (decide (n = q) && c) := by
  unfold turn
  cases c with
  | false => simp
  | true =>
    rw [if_pos rfl, rd_nat, rd_nat, rd_nat, List.getD_eq_getElem?_getD, List.getD_eq_getElem?_getD, List.getD_eq_getElem?_getD, List.getElem?_set]
    by_cases e : q = n
    · subst e
      rw [if_pos rfl, if_pos hq]
      simp
    · rw [if_neg e, decide_eq_false (fun h => e h.symm)]
      simp
theorem turn_turn (b c : Bool) (V : List Bool) (q : Nat) (hq : q < V.length) : turn c (turn b V q) q = turn (xor b c) V q := by
  apply List.ext_getElem (by rw [turn_length, turn_length, turn_length])
  intro i h1 h2
  have e : ∀ (L : List Bool) (h : i < L.length), L[i] = rdOf false L (i : Int) := fun L h => by rw [rd_nat, List.getD_eq_getElem?_getD, List.getElem?_eq_getElem h]; rfl
  rw [e _ h1, e _ h2, rd_turn _ _ _ _ (by rw [turn_length]; exact hq), rd_turn _ _ _ _ hq, rd_turn _ _ _ _ hq, Bool.xor_assoc]
  cases decide (i = q) <;> simp
theorem par_one (q : Nat) (g : Bool) : ∀ N, par (List.range N) (fun n => decide (n = q) && g) = (decide (q < N) && g)
  | 0 => by simp [par]
  | N + 1 => by
    rw [List.range_succ, par_append, par_one q g N]
    show xor _ (xor (decide (N = q) && g) false) = _
    rw [Bool.xor_false]
    by_cases c1 : q < N
    · rw [decide_eq_true c1, decide_eq_false (show ¬ N = q by omega), decide_eq_true (show q < N + 1 by omega)]; simp
    · rw [decide_eq_false c1]
      by_cases c2 : N = q
      · rw [decide_eq_true c2, decide_eq_true (show q < N + 1 by omega)]; simp
      · rw [decide_eq_false c2, decide_eq_false (show ¬ q < N + 1 by omega)]; simp
theorem parV_turn (W H : Int) (c : Bool) (V : List Bool) (q : Nat) (hq : q < V.length) (G : S25 → Bool) : parV W H (turn c V q) G = xor (parV W H V G) (c && G (atP W H q)) := by
  unfold parV
  rw [turn_length, par_congr (g := fun (n : Nat) => xor (rdOf false V (n : Int) && G (atP W H n)) (decide (n = q) && (c && G (atP W H q)))) (fun n _ => by
    rw [rd_turn _ _ _ _ hq]
    by_cases e : n = q
    · subst e; rw [decide_eq_true rfl]; cases rdOf false V (n : Int) <;> cases c <;> cases G (atP W H n) <;> rfl
    · rw [decide_eq_false e]; simp), par_xor, par_one, decide_eq_true hq, Bool.true_and]
/-- A list turned at many places. -/
def turns {α : Type} (c : α → Bool) (q : α → Nat) (l : List α) (V : List Bool) : List Bool := l.foldl (fun V a => turn (c a) V (q a)) V
theorem turns_length {α : Type} (c : α → Bool) (q : α → Nat) (l : List α) : ∀ V, (turns c q l V).length = V.length := by
  induction l with
  | nil => intro V; rfl
  | cons a l ih => intro V; show (turns c q l (turn (c a) V (q a))).length = _; rw [ih, turn_length]
theorem parV_turns {α : Type} (W H : Int) (c : α → Bool) (q : α → Nat) (G : S25 → Bool) (l : List α) : ∀ V : List Bool, (∀ a ∈ l, q a < V.length) → parV W H (turns c q l V) G = xor (parV W H V G) (par l fun a => c a && G (atP W H (q a))) := by
  induction l with
  | nil => intro V _; show _ = xor _ false; rw [Bool.xor_false]; rfl
  | cons a l ih =>
    intro V h
    show parV W H (turns c q l (turn (c a) V (q a))) G = xor _ (xor _ _)
    rw [ih _ (fun b hb => by rw [turn_length]; exact h b (List.mem_cons_of_mem _ hb)), parV_turn _ _ _ _ _ (h a List.mem_cons_self), Bool.xor_assoc]; rfl
theorem parV_zero (W H : Int) (N : Nat) (G : S25 → Bool) : parV W H (List.replicate N false) G = false := by
  unfold parV
  rw [par_congr (g := fun _ => false) (fun n _ => by
    rw [rd_nat, List.getD_eq_getElem?_getD, List.getElem?_replicate]
    split <;> simp), par_zero]

/-! ### The document's sets -/
section
variable (W H T S : Int)
def zeroV : List Bool := List.replicate (W * H).toNat false
def nextV (D : List S25) (V : List Bool) : List Bool := turns (fun (n : Nat) => par D fun d => rdOf false V (numP W H T S (addP (atP W H n) d) : Int)) id (List.range (W * H).toNat) (zeroV W H)
def dblV (V : List Bool) : List Bool := turns (fun (n : Nat) => rdOf false V (n : Int)) (fun n => numP W H T S (dbl (atP W H n))) (List.range (W * H).toNat) (zeroV W H)
def powV (D : List S25) (n : Nat) : List Bool :=
  if h : n = 0 then turn true (zeroV W H) (numP W H T S ⟨0, 0⟩)
  else if n % 2 = 1 then nextV W H T S D (dblV W H T S (powV D (n / 2))) else dblV W H T S (powV D (n / 2))
termination_by n
decreasing_by all_goals omega
def manyV (L M : List S25) : List Bool := turns (fun _ => true) (fun p => numP W H T S p) (L.flatMap fun c => M.map fun o => addP c o) (zeroV W H)
end
theorem zeroV_length (W H : Int) : (zeroV W H).length = (W * H).toNat := by simp [zeroV]
section
variable {W H T S : Int} (hv : TV W H T S)
theorem nextV_length (D : List S25) (V : List Bool) : (nextV W H T S D V).length = (W * H).toNat := by unfold nextV; rw [turns_length, zeroV_length]
theorem dblV_length (V : List Bool) : (dblV W H T S V).length = (W * H).toNat := by unfold dblV; rw [turns_length, zeroV_length]
theorem powV_length (D : List S25) (n : Nat) : (powV W H T S D n).length = (W * H).toNat := by
  rw [powV]
  split
  · rw [turn_length, zeroV_length]
  · split
    · exact nextV_length D _
    · exact dblV_length _
include hv
theorem parV_dbl {V : List Bool} (hV : V.length = (W * H).toNat) {G : S25 → Bool} (hG : Peri W H T S G) : parV W H (dblV W H T S V) G = parV W H V fun p => G (dbl p) := by
  unfold dblV
  rw [parV_turns _ _ _ _ _ _ _ (fun a _ => by rw [zeroV_length]; exact num_lt hv _)]
  unfold zeroV
  rw [parV_zero, Bool.false_xor]
  unfold parV
  rw [hV]
  exact par_congr fun n _ => by rw [at_num hv, peri_cell hv hG]
/-- All cells moved are all cells. -/
theorem par_all_moved {F : S25 → Bool} (hF : Peri W H T S F) (d : S25) : par (List.range (W * H).toNat) (fun n => F (addP (atP W H n) d)) = par (List.range (W * H).toNat) fun n => F (atP W H n) := by
  have h1 : ((List.range (W * H).toNat).map (atP W H)).Nodup := List.pairwise_map.2 ((List.nodup_range).imp_of_mem fun {a b} ha hb hab e => hab (by
    rw [← num_at hv (List.mem_range.1 ha), ← num_at hv (List.mem_range.1 hb), e]))
  have hm : ∀ q, hasB W H q = true → q ∈ (List.range (W * H).toNat).map (atP W H) := fun q hq => List.mem_map.2 ⟨numP W H T S q, List.mem_range.2 (num_lt hv q), by rw [at_num hv, cell_home hv hq]⟩
  have hh : ∀ q ∈ (List.range (W * H).toNat).map (atP W H), hasB W H q = true := fun q hq => by
    obtain ⟨n, hn, rfl⟩ := List.mem_map.1 hq
    exact at_home hv (List.mem_range.1 hn)
  have hhc : ∀ q, hasB W H (cellG W H T S q) = true := fun q => by rw [← at_num hv]; exact at_home hv (num_lt hv q)
  have hp : (((List.range (W * H).toNat).map (atP W H)).map fun p => cellG W H T S (addP p d)).Perm ((List.range (W * H).toNat).map (atP W H)) := by
    have h2 : (((List.range (W * H).toNat).map (atP W H)).map fun p => cellG W H T S (addP p d)).Nodup := by
      refine List.pairwise_map.2 (h1.imp_of_mem fun {a b} ha hb hab e => hab ?_)
      rw [← cell_home hv (hh a ha), ← cell_home hv (hh b hb)]
      refine cell_same hv ?_
      have ha' := cell_diff hv (addP a d)
      have hb' := cell_diff hv (addP b d)
      rw [e] at ha'
      have := inL_add ha' (inL_neg hb')
      unfold addP at this
      dsimp only at this
      refine cast ?_ this
      congr 1 <;> omega
    refine (List.perm_ext_iff_of_nodup h2 h1).2 fun q => ⟨fun hq => ?_, fun hq => ?_⟩
    · obtain ⟨p, hp, rfl⟩ := List.mem_map.1 hq
      exact hm _ (hhc _)
    · refine List.mem_map.2 ⟨cellG W H T S ⟨q.f0 - d.f0, q.f1 - d.f1⟩, hm _ (hhc _), ?_⟩
      rw [← cell_home hv (hh q hq)]
      refine cell_same hv ?_
      have := inL_neg (cell_diff hv (⟨q.f0 - d.f0, q.f1 - d.f1⟩ : S25))
      rw [cell_home hv (hh q hq)]
      unfold addP
      dsimp only at this ⊢
      refine cast ?_ this
      congr 1 <;> omega
  have e := par_perm hp F
  rw [par_map, par_map, par_map] at e
  rw [← e]
  exact par_congr fun n _ => (peri_cell hv hF _).symm
theorem parV_next (D : List S25) {V : List Bool} (hV : V.length = (W * H).toNat) {G : S25 → Bool} (hG : Peri W H T S G) : parV W H (nextV W H T S D V) G = parV W H V (opA D G) := by
  unfold nextV
  rw [parV_turns _ _ _ _ _ _ _ (fun a ha => by rw [zeroV_length]; exact List.mem_range.1 ha)]
  unfold zeroV
  rw [parV_zero, Bool.false_xor]
  unfold parV
  rw [hV]
  have e1 : par (List.range (W * H).toNat) (fun (n : Nat) => (par D fun d => rdOf false V (numP W H T S (addP (atP W H n) d) : Int)) && G (atP W H (id n)))
      = par (List.range (W * H).toNat) (fun (n : Nat) => par D fun d => rdOf false V (numP W H T S (addP (atP W H n) d) : Int) && G ⟨(addP (atP W H n) d).f0 - d.f0, (addP (atP W H n) d).f1 - d.f1⟩) := par_congr fun n _ => by
    have e : ∀ d : S25, (⟨(addP (atP W H n) d).f0 - d.f0, (addP (atP W H n) d).f1 - d.f1⟩ : S25) = atP W H n := fun d => by
      rw [S25.ext_iff']; unfold addP; dsimp only; omega
    simp only [e, id]
    cases G (atP W H n) <;> simp [par_zero]
  have e2 : par (List.range (W * H).toNat) (fun (n : Nat) => rdOf false V (n : Int) && opA D G (atP W H n)) = par (List.range (W * H).toNat) (fun (n : Nat) => par D fun d => rdOf false V (numP W H T S (atP W H n) : Int) && G ⟨(atP W H n).f0 - d.f0, (atP W H n).f1 - d.f1⟩) := par_congr fun n hn => by
    rw [num_at hv (List.mem_range.1 hn)]
    unfold opA
    cases rdOf false V (n : Int) <;> simp [par_zero]
  rw [e1, e2, par_swap, par_swap (List.range _) D]
  refine par_congr fun d _ => ?_
  refine par_all_moved hv (F := fun p => rdOf false V (numP W H T S p : Int) && G ⟨p.f0 - d.f0, p.f1 - d.f1⟩) (fun p q hpq => ?_) d
  have e3 : numP W H T S p = numP W H T S q := by unfold numP; rw [cell_same hv hpq]
  have e4 : G ⟨p.f0 - d.f0, p.f1 - d.f1⟩ = G ⟨q.f0 - d.f0, q.f1 - d.f1⟩ := hG _ _ (by dsimp only; rw [show p.f0 - d.f0 - (q.f0 - d.f0) = p.f0 - q.f0 by omega, show p.f1 - d.f1 - (q.f1 - d.f1) = p.f1 - q.f1 by omega]; exact hpq)
  show (rdOf false V (numP W H T S p : Int) && G ⟨p.f0 - d.f0, p.f1 - d.f1⟩) = (rdOf false V (numP W H T S q : Int) && G ⟨q.f0 - d.f0, q.f1 - d.f1⟩)
  rw [e3, e4]
omit hv in
theorem opN_dbl (D : List S25) (G : S25 → Bool) : ∀ m p, opN m D (fun p => G (dbl p)) p = opN (2 * m) D G (dbl p)
  | 0, p => rfl
  | m + 1, p => by
    show opA D (opN m D fun p => G (dbl p)) p = opA D (opA D (opN (2 * m) D G)) (dbl p)
    rw [show opN m D (fun p => G (dbl p)) = fun p => opN (2 * m) D G (dbl p) from funext fun p => opN_dbl D G m p]
    unfold opA
    rw [par_diag D (fun d e => opN (2 * m) D G ⟨(dbl p).f0 - d.f0 - e.f0, (dbl p).f1 - d.f1 - e.f1⟩) (fun a b => by rw [show (dbl p).f0 - a.f0 - b.f0 = (dbl p).f0 - b.f0 - a.f0 by omega, show (dbl p).f1 - a.f1 - b.f1 = (dbl p).f1 - b.f1 - a.f1 by omega])]
    exact par_congr fun d _ => congrArg _ (by rw [S25.ext_iff']; unfold dbl; dsimp only; omega)
omit hv in
theorem peri_dbl {G : S25 → Bool} (hG : Peri W H T S G) : Peri W H T S fun p => G (dbl p) := fun p q h => hG _ _ (by
  have := inL_add h h
  unfold dbl
  dsimp only
  rw [show 2 * p.f0 - 2 * q.f0 = p.f0 - q.f0 + (p.f0 - q.f0) by omega, show 2 * p.f1 - 2 * q.f1 = p.f1 - q.f1 + (p.f1 - q.f1) by omega]
  exact this)
theorem parV_pow (D : List S25) (n : Nat) : ∀ G : S25 → Bool, Peri W H T S G → parV W H (powV W H T S D n) G = opN n D G ⟨0, 0⟩ := by
  induction n using Nat.strongRecOn with
  | _ n ih =>
    intro G hG
    rw [powV]
    split
    · rename_i h
      subst h
      rw [parV_turn _ _ _ _ _ (by rw [zeroV_length]; exact num_lt hv _)]
      unfold zeroV
      rw [parV_zero, Bool.false_xor, Bool.true_and, at_num hv, peri_cell hv hG]; rfl
    · rename_i h
      split
      · rename_i h2
        rw [parV_next hv D (dblV_length _) hG, parV_dbl hv (powV_length D _) (peri_opA hG D), ih (n / 2) (by omega) _ (peri_dbl (peri_opA hG D)), opN_dbl]
        rw [show (⟨0, 0⟩ : S25) = dbl ⟨0, 0⟩ from rfl, show opA D G = opN 1 D G from rfl, ← opN_add, show 2 * (n / 2) + 1 = n by omega]; rfl
      · rename_i h2
        rw [parV_dbl hv (powV_length D _) hG, ih (n / 2) (by omega) _ (peri_dbl hG), opN_dbl, show 2 * (n / 2) = n by omega]; rfl
omit hv in
theorem opN_shift (D : List S25) (G : S25 → Bool) (c : S25) : ∀ n p, opN n D (fun q => G (addP c q)) p = opN n D G (addP c p)
  | 0, p => rfl
  | n + 1, p => by
    show opA D (opN n D fun q => G (addP c q)) p = opA D (opN n D G) (addP c p)
    unfold opA
    exact par_congr fun d _ => by
      rw [opN_shift D G c n]
      exact congrArg _ (by rw [S25.ext_iff']; unfold addP; dsimp only; omega)
theorem parV_many (D L : List S25) (n : Nat) {G : S25 → Bool} (hG : Peri W H T S G) : parV W H (manyV W H T S L (listV W H (powV W H T S D n))) G = par L (opN n D G) := by
  unfold manyV
  rw [parV_turns _ _ _ _ _ _ _ (fun a _ => by rw [zeroV_length]; exact num_lt hv _)]
  unfold zeroV
  rw [parV_zero, Bool.false_xor, par_flatMap]
  refine par_congr fun c _ => ?_
  rw [par_map]
  have hp : Peri W H T S fun q => G (addP c q) := fun p q h => hG _ _ (by unfold addP; dsimp only; rw [show c.f0 + p.f0 - (c.f0 + q.f0) = p.f0 - q.f0 by omega, show c.f1 + p.f1 - (c.f1 + q.f1) = p.f1 - q.f1 by omega]; exact h)
  have e := parV_pow hv D n _ hp
  rw [← par_listV, opN_shift] at e
  rw [show addP c ⟨0, 0⟩ = c from by rw [S25.ext_iff']; unfold addP; dsimp only; omega] at e
  rw [← e]
  exact par_congr fun o _ => by rw [at_num hv, peri_cell hv hG, Bool.true_and]
theorem listV_sorted {V : List Bool} (hV : V.length = (W * H).toNat) : (listV W H V).Pairwise fun a b => leP a b = true ∧ a ≠ b := by
  unfold listV
  refine List.pairwise_map.2 ((List.pairwise_lt_range).filter _ |>.imp_of_mem fun {a b} ha hb hab => ⟨?_, fun e => ?_⟩)
  · have hw := hv.w1
    have h1 := Int.emod_add_mul_ediv (a : Int) W
    have h2 := Int.emod_add_mul_ediv (b : Int) W
    have h3 : (a : Int) / W ≤ (b : Int) / W := Int.ediv_le_ediv (by omega) (by omega)
    unfold leP
    rw [Bool.not_eq_true', decide_eq_false_iff_not, cfP_lt]
    unfold atP
    dsimp only
    by_cases c : (a : Int) / W = (b : Int) / W
    · rw [c] at h1; omega
    · omega
  · have ha' := List.mem_range.1 (List.mem_filter.1 ha).1
    have hb' := List.mem_range.1 (List.mem_filter.1 hb).1
    rw [hV] at ha' hb'
    have := num_at hv ha'
    rw [e, num_at hv hb'] at this
    omega
theorem listV_home {V : List Bool} (hV : V.length = (W * H).toNat) : ∀ p ∈ listV W H V, hasB W H p = true := fun p hp => by
  obtain ⟨n, hn, rfl⟩ := List.mem_map.1 hp
  have := List.mem_range.1 (List.mem_filter.1 hn).1
  exact at_home hv (by omega)
theorem cells_length {l : List S25} (h : l.Nodup) (hh : ∀ p ∈ l, hasB W H p = true) : l.length ≤ (W * H).toNat := by
  have h1 : (l.map (numP W H T S)).Nodup := List.pairwise_map.2 (h.imp_of_mem fun {a b} ha hb hab e => hab (by
    rw [← cell_home hv (hh a ha), ← cell_home hv (hh b hb), ← at_num hv, ← at_num hv, e]))
  have h2 := len_sub _ (List.range (W * H).toNat) h1 fun n hn => by
    obtain ⟨p, _, rfl⟩ := List.mem_map.1 hn
    exact List.mem_range.2 (num_lt hv p)
  rwa [List.length_map, List.length_range] at h2
/-- The document's jump is the program's. -/
theorem many_jump (D : List S25) {L : List S25} (n : Nat) (h1 : L.Nodup) (h2 : ∀ p ∈ L, hasB W H p = true) : listV W H (manyV W H T S L (listV W H (powV W H T S D n))) = jumpS W H T S D L n := by
  have hl : (manyV W H T S L (listV W H (powV W H T S D n))).length = (W * H).toNat := by unfold manyV; rw [turns_length, zeroV_length]
  have hs := listV_sorted hv hl
  refine eq_of_par hv (hs.imp fun h => h.2) (listV_home hv hl) (jumpS_nodup hv D n h1 h2) (jumpS_home hv D n h1 h2) (hs.imp fun h => h.1) (jumpS_sorted ..) fun G hG => ?_
  rw [par_listV, parV_many hv D L n hG, par_jumpS hv hG]
end
end Go.Proofs.Ytomogkhdfaiekaa.PLin
