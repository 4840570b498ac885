/-
  Sums of two: a list's xor of a test, and what a torus' cells have to do with it; no walk.
-/
import Derived.Test.YtomogkhdfaiekaaHJump
namespace Go.Proofs.Ytomogkhdfaiekaa.PLin
open Go.Proofs.Ytomogkhdfaiekaa.HW Go.Proofs.Ytomogkhdfaiekaa.HSet Go.RowKit Go.Proofs.YtomogkhdfaiekaaW.PrintWords Go.Proofs.YtomogkhdfaiekaaW.PrintLast Go.Proofs.YtomogkhdfaiekaaW.PrintMore
set_option linter.unusedVariables false
set_option linter.unusedSimpArgs false

/-- Is a test met by an odd number of a list's members? -/
def par {α : Type} (l : List α) (f : α → Bool) : Bool := l.foldr (fun a r => xor (f a) r) false
section
variable {α β : Type}
@[simp] theorem par_nil (f : α → Bool) : par [] f = false := rfl
@[simp] theorem par_cons (a : α) (l : List α) (f : α → Bool) : par (a :: l) f = xor (f a) (par l f) := rfl
theorem par_append (l m : List α) (f : α → Bool) : par (l ++ m) f = xor (par l f) (par m f) := by
  induction l with
  | nil => simp
  | cons a l ih => rw [List.cons_append, par_cons, par_cons, ih, Bool.xor_assoc]
theorem par_map (l : List α) (g : α → β) (f : β → Bool) : par (l.map g) f = par l fun a => f (g a) := by
  induction l with
  | nil => rfl
  | cons a l ih => rw [List.map_cons, par_cons, par_cons, ih]
theorem par_flatMap (l : List α) (g : α → List β) (f : β → Bool) : par (l.flatMap g) f = par l fun a => par (g a) f := by
  induction l with
  | nil => rfl
  | cons a l ih => rw [List.flatMap_cons, par_append, par_cons, ih]
theorem par_congr {l : List α} {f g : α → Bool} (h : ∀ a ∈ l, f a = g a) : par l f = par l g := by
  induction l with
  | nil => rfl
  | cons a l ih => rw [par_cons, par_cons, h a (by simp), ih fun b hb => h b (by simp [hb])]
theorem par_zero (l : List α) : par l (fun _ => false) = false := by
  induction l with
  | nil => rfl
  | cons a l ih => rw [par_cons, ih]; rfl
theorem par_xor (l : List α) (f g : α → Bool) : par l (fun a => xor (f a) (g a)) = xor (par l f) (par l g) := by
  induction l with
  | nil => rfl
  | cons a l ih => rw [par_cons, par_cons, par_cons, ih]; cases f a <;> cases g a <;> cases par l f <;> cases par l g <;> rfl
theorem par_swap (l : List α) (m : List β) (f : α → β → Bool) : par l (fun a => par m (f a)) = par m fun b => par l fun a => f a b := by
  induction l with
  | nil => simp only [par_nil]; exact (par_zero m).symm
  | cons a l ih => simp only [par_cons]; rw [par_xor, ih]
/-- What is twice there goes: of a symmetric test over pairs the diagonal is left. -/
theorem par_diag (l : List α) (h : α → α → Bool) (hs : ∀ a b, h a b = h b a) : par l (fun a => par l (h a)) = par l fun a => h a a := by
  induction l with
  | nil => rfl
  | cons a l ih =>
    simp only [par_cons]
    rw [par_xor, ih, par_congr (l := l) (f := fun b => h b a) (g := fun b => h a b) (fun b _ => hs b a)]
    cases h a a <;> cases par l (h a) <;> cases par l (fun a => h a a) <;> rfl
theorem par_filter (l : List α) (c f : α → Bool) : par (l.filter c) f = par l fun a => c a && f a := by
  induction l with
  | nil => rfl
  | cons a l ih => rw [List.filter_cons, par_cons]; cases h : c a <;> simp [ih]
theorem par_perm {l m : List α} (h : l.Perm m) (f : α → Bool) : par l f = par m f := by
  induction h with
  | nil => rfl
  | cons a _ ih => rw [par_cons, par_cons, ih]
  | swap a b l => simp only [par_cons]; cases f a <;> cases f b <;> cases par l f <;> rfl
  | trans _ _ h1 h2 => rw [h1, h2]
end

theorem par_tog {S : List S25} (h : S.Nodup) (p : S25) (f : S25 → Bool) : par (tog S p) f = xor (par S f) (f p) := by
  unfold tog
  by_cases hp : p ∈ S
  · rw [if_pos hp, par_perm (List.perm_cons_erase hp) f, par_cons]
    cases f p <;> cases par (S.erase p) f <;> rfl
  · rw [if_neg hp, par_append]; simp
theorem par_fold_tog (l : List S25) (f : S25 → Bool) : ∀ S : List S25, S.Nodup → par (l.foldl tog S) f = xor (par S f) (par l f) := by
  induction l with
  | nil => intro S _; simp
  | cons a l ih => intro S h; rw [List.foldl_cons, ih _ (tog_nodup h a), par_tog h, par_cons, Bool.xor_assoc]
/-- What is left of a list tells each sum as the list did. -/
theorem par_norm (l : List S25) (f : S25 → Bool) : par (norm l) f = par l f := by unfold norm; rw [par_fold_tog l f [] List.nodup_nil]; simp

theorem par_eq_count (l : List S25) (q : S25) : par l (fun p => decide (p = q)) = decide (l.count q % 2 = 1) := by
  induction l with
  | nil => rfl
  | cons a l ih =>
    rw [par_cons, ih, List.count_cons]
    by_cases e : a = q
    · subst e; simp; rw [Bool.eq_iff_iff]; simp; omega
    · simp [e]
theorem mem_of_par {l : List S25} (h : l.Nodup) (q : S25) : q ∈ l ↔ par l (fun p => decide (p = q)) = true := by
  rw [par_eq_count, decide_eq_true_eq, h.count]; split <;> simp_all

/-! ### A torus' cells -/
def S1 (T S : Int) : Int := if T = 1 then S else 0
def S2 (T S : Int) : Int := if T = 2 then S else 0
/-- Places that are one cell differ by this. -/
def inL (W H T S : Int) (x y : Int) : Prop := ∃ a b : Int, x = a * W + b * S1 T S ∧ y = b * H + a * S2 T S

theorem inL_add {W H T S x y x' y' : Int} (h : inL W H T S x y) (h' : inL W H T S x' y') : inL W H T S (x + x') (y + y') := by
  obtain ⟨a, b, rfl, rfl⟩ := h
  obtain ⟨a', b', rfl, rfl⟩ := h'
  exact ⟨a + a', b + b', by simp only [Int.add_mul]; omega, by simp only [Int.add_mul]; omega⟩
theorem inL_neg {W H T S x y : Int} (h : inL W H T S x y) : inL W H T S (-x) (-y) := by
  obtain ⟨a, b, rfl, rfl⟩ := h
  exact ⟨-a, -b, by simp only [Int.neg_mul]; omega, by simp only [Int.neg_mul]; omega⟩
theorem cell_same {W H T S : Int} (hv : TV W H T S) {p q : S25} (h : inL W H T S (p.f0 - q.f0) (p.f1 - q.f1)) : cellG W H T S p = cellG W H T S q := by
  obtain ⟨a, b, hx, hy⟩ := h
  have hW : W ≠ 0 := by have := hv.w1; omega
  have hH : H ≠ 0 := by have := hv.h1; omega
  unfold cellG
  unfold S1 at hx; unfold S2 at hy
  dsimp only
  by_cases t1 : T = 1
  · rw [if_pos t1] at hx
    rw [if_neg (by omega), Int.mul_zero, Int.add_zero] at hy
    rw [if_pos t1, if_pos t1]
    have e1 : p.f1 + H / 2 = q.f1 + H / 2 + b * H := by omega
    have e2 : (p.f1 + H / 2) / H = (q.f1 + H / 2) / H + b := by rw [e1, Int.add_mul_ediv_right _ _ hH]
    have e3 : (p.f1 + H / 2) % H = (q.f1 + H / 2) % H := by rw [e1, Int.add_mul_emod_self_right]
    have e4 : p.f0 + W / 2 - ((q.f1 + H / 2) / H + b) * S = q.f0 + W / 2 - (q.f1 + H / 2) / H * S + a * W := by rw [Int.add_mul]; omega
    rw [e3, e2, e4, Int.add_mul_emod_self_right]
  · rw [if_neg t1, Int.mul_zero, Int.add_zero] at hx
    rw [if_neg t1, if_neg t1]
    by_cases t2 : T = 2
    · rw [if_pos t2] at hy
      rw [if_pos t2, if_pos t2]
      have e1 : p.f0 + W / 2 = q.f0 + W / 2 + a * W := by omega
      have e2 : (p.f0 + W / 2) / W = (q.f0 + W / 2) / W + a := by rw [e1, Int.add_mul_ediv_right _ _ hW]
      have e3 : (p.f0 + W / 2) % W = (q.f0 + W / 2) % W := by rw [e1, Int.add_mul_emod_self_right]
      have e4 : p.f1 + H / 2 - ((q.f0 + W / 2) / W + a) * S = q.f1 + H / 2 - (q.f0 + W / 2) / W * S + b * H := by rw [Int.add_mul]; omega
      rw [e3, e2, e4, Int.add_mul_emod_self_right]
    · rw [if_neg t2, Int.mul_zero, Int.add_zero] at hy
      rw [if_neg t2, if_neg t2]
      have e1 : p.f0 + W / 2 = q.f0 + W / 2 + a * W := by omega
      have e2 : p.f1 + H / 2 = q.f1 + H / 2 + b * H := by omega
      rw [e1, e2, Int.add_mul_emod_self_right, Int.add_mul_emod_self_right]

/-- A place and its cell. -/
theorem cell_diff {W H T S : Int} (hv : TV W H T S) (p : S25) : inL W H T S (p.f0 - (cellG W H T S p).f0) (p.f1 - (cellG W H T S p).f1) := by
  unfold cellG inL S1 S2
  dsimp only
  by_cases t1 : T = 1
  · rw [if_pos t1, if_pos t1, if_neg (show ¬ T = 2 by omega)]
    refine ⟨(p.f0 + W / 2 - (p.f1 + H / 2) / H * S) / W, (p.f1 + H / 2) / H, ?_, ?_⟩
    · have := Int.emod_add_mul_ediv (p.f0 + W / 2 - (p.f1 + H / 2) / H * S) W
      rw [Int.mul_comm W] at this
      dsimp only; omega
    · have := Int.emod_add_mul_ediv (p.f1 + H / 2) H
      rw [Int.mul_comm H] at this
      dsimp only; rw [Int.mul_zero]; omega
  · rw [if_neg t1, if_neg t1]
    by_cases t2 : T = 2
    · rw [if_pos t2, if_pos t2]
      refine ⟨(p.f0 + W / 2) / W, (p.f1 + H / 2 - (p.f0 + W / 2) / W * S) / H, ?_, ?_⟩
      · have := Int.emod_add_mul_ediv (p.f0 + W / 2) W
        rw [Int.mul_comm W] at this
        dsimp only; rw [Int.mul_zero]; omega
      · have := Int.emod_add_mul_ediv (p.f1 + H / 2 - (p.f0 + W / 2) / W * S) H
        rw [Int.mul_comm H] at this
        dsimp only; omega
    · rw [if_neg t2, if_neg t2]
      refine ⟨(p.f0 + W / 2) / W, (p.f1 + H / 2) / H, ?_, ?_⟩
      · have := Int.emod_add_mul_ediv (p.f0 + W / 2) W
        rw [Int.mul_comm W] at this
        dsimp only; rw [Int.mul_zero]; omega
      · have := Int.emod_add_mul_ediv (p.f1 + H / 2) H
        rw [Int.mul_comm H] at this
        dsimp only; rw [Int.mul_zero]; omega

theorem cell_home {W H T S : Int} (hv : TV W H T S) {p : S25} (h : hasB W H p = true) : cellG W H T S p = p := by
  unfold hasB at h
  rw [Bool.and_eq_true, decide_eq_true_eq, decide_eq_true_eq] at h
  obtain ⟨⟨a1, a2⟩, b1, b2⟩ := h
  have e1 : (p.f0 + W / 2) / W = 0 := Int.ediv_eq_zero_of_lt (by omega) (by omega)
  have e2 : (p.f1 + H / 2) / H = 0 := Int.ediv_eq_zero_of_lt (by omega) (by omega)
  have e3 : (p.f0 + W / 2) % W = p.f0 + W / 2 := Int.emod_eq_of_lt (by omega) (by omega)
  have e4 : (p.f1 + H / 2) % H = p.f1 + H / 2 := Int.emod_eq_of_lt (by omega) (by omega)
  rw [S25.ext_iff']
  unfold cellG
  dsimp only
  simp only [e1, e2, Int.zero_mul, Int.sub_zero, e3, e4]
  split
  · dsimp only; omega
  · split <;> (dsimp only; omega)

/-! ### Tests that see no more than the cell -/
def Peri (W H T S : Int) (G : S25 → Bool) : Prop := ∀ p q : S25, inL W H T S (p.f0 - q.f0) (p.f1 - q.f1) → G p = G q
def opA (D : List S25) (G : S25 → Bool) (p : S25) : Bool := par D fun d => G ⟨p.f0 - d.f0, p.f1 - d.f1⟩
def opN : Nat → List S25 → (S25 → Bool) → S25 → Bool
  | 0, _, G => G
  | n + 1, D, G => opA D (opN n D G)

theorem peri_cell {W H T S : Int} (hv : TV W H T S) {G : S25 → Bool} (h : Peri W H T S G) (p : S25) : G (cellG W H T S p) = G p := (h _ _ (cell_diff hv p)).symm
theorem peri_opA {W H T S : Int} {G : S25 → Bool} (h : Peri W H T S G) (D : List S25) : Peri W H T S (opA D G) := fun p q hpq =>
  par_congr fun d _ => h _ _ (by dsimp only; rw [show p.f0 - d.f0 - (q.f0 - d.f0) = p.f0 - q.f0 by omega, show p.f1 - d.f1 - (q.f1 - d.f1) = p.f1 - q.f1 by omega]; exact hpq)
theorem peri_opN {W H T S : Int} {G : S25 → Bool} (h : Peri W H T S G) (D : List S25) : ∀ n, Peri W H T S (opN n D G)
  | 0 => h
  | n + 1 => peri_opA (peri_opN h D n) D

theorem peri_shift {W H T S : Int} (hv : TV W H T S) {G : S25 → Bool} (h : Peri W H T S G) (p d : S25) : G ⟨p.f0 - (cellG W H T S d).f0, p.f1 - (cellG W H T S d).f1⟩ = G ⟨p.f0 - d.f0, p.f1 - d.f1⟩ :=
  h _ _ (by dsimp only; rw [show p.f0 - (cellG W H T S d).f0 - (p.f0 - d.f0) = d.f0 - (cellG W H T S d).f0 by omega, show p.f1 - (cellG W H T S d).f1 - (p.f1 - d.f1) = d.f1 - (cellG W H T S d).f1 by omega]; exact cell_diff hv d)

theorem par_moved {W H T S : Int} (hv : TV W H T S) {G : S25 → Bool} (h : Peri W H T S G) (D St : List S25) : par (movedL W H T S D St) G = par St (opA D G) := by
  unfold movedL
  rw [par_flatMap]
  show (par D fun d => par (St.map _) G) = _
  simp only [par_map]
  rw [par_swap]
  exact par_congr fun p _ => par_congr fun d _ => by rw [peri_cell hv h, peri_shift hv h]

theorem opA_near {W H T S : Int} (hv : TV W H T S) {G : S25 → Bool} (h : Peri W H T S G) (D : List S25) : opA (sortP (norm (nearL W H T S D))) G = opA D G := by
  funext p
  unfold opA
  rw [par_perm (sortP_perm _), par_norm]
  unfold nearL
  rw [par_map]
  exact par_congr fun d _ => peri_shift hv h p d
theorem opA_doubled {W H T S : Int} (hv : TV W H T S) {G : S25 → Bool} (h : Peri W H T S G) (D : List S25) : opA (sortP (norm (doubledL W H T S D))) G = opA D (opA D G) := by
  funext p
  unfold opA
  rw [par_perm (sortP_perm _), par_norm]
  unfold doubledL
  rw [par_map, par_diag D (fun d e => G ⟨p.f0 - d.f0 - e.f0, p.f1 - d.f1 - e.f1⟩) (fun a b => by rw [show p.f0 - a.f0 - b.f0 = p.f0 - b.f0 - a.f0 by omega, show p.f1 - a.f1 - b.f1 = p.f1 - b.f1 - a.f1 by omega])]
  refine par_congr fun d _ => ?_
  rw [peri_shift hv h p ⟨2 * d.f0, 2 * d.f1⟩]
  rw [show p.f0 - 2 * d.f0 = p.f0 - d.f0 - d.f0 by omega, show p.f1 - 2 * d.f1 = p.f1 - d.f1 - d.f1 by omega]

theorem opN_doubled {W H T S : Int} (hv : TV W H T S) {G : S25 → Bool} (h : Peri W H T S G) (D : List S25) : ∀ m, opN m (sortP (norm (doubledL W H T S D))) G = opN (2 * m) D G
  | 0 => rfl
  | m + 1 => by
    show opA _ (opN m _ G) = opA D (opA D (opN (2 * m) D G))
    rw [opN_doubled hv h D m, opA_doubled hv (peri_opN h D _)]
theorem opN_near {W H T S : Int} (hv : TV W H T S) {G : S25 → Bool} (h : Peri W H T S G) (D : List S25) : ∀ m, opN m (sortP (norm (nearL W H T S D))) G = opN m D G
  | 0 => rfl
  | m + 1 => by
    show opA _ (opN m _ G) = opA D (opN m D G)
    rw [opN_near hv h D m, opA_near hv (peri_opN h D _)]
theorem opN_add (D : List S25) (G : S25 → Bool) : ∀ m n, opN (m + n) D G = opN m D (opN n D G)
  | 0, n => by rw [Nat.zero_add]; rfl
  | m + 1, n => by rw [Nat.succ_add]; show opA D (opN (m + n) D G) = opA D (opN m D (opN n D G)); rw [opN_add D G m n]

/-- WHAT A JUMP DOES: n generations of each test. -/
theorem par_jumpN {W H T S : Int} (hv : TV W H T S) {G : S25 → Bool} (h : Peri W H T S G) (n : Nat) : ∀ D St : List S25, par (jumpN W H T S n D St) G = par St (opN n D G) := by
  induction n using Nat.strongRecOn with
  | _ n ih =>
    intro D St
    rw [jumpN]
    by_cases h0 : n = 0
    · rw [dif_pos h0]; subst h0; rfl
    · rw [dif_neg h0, ih (n / 2) (by omega), opN_doubled hv h]
      by_cases h1 : n % 2 = 1
      · rw [if_pos h1, par_norm, par_moved hv (peri_opN h D _)]
        have e : opN n D G = opA D (opN (2 * (n / 2)) D G) := by
          have : n = 2 * (n / 2) + 1 := by omega
          exact (congrArg (fun k => opN k D G) this).trans rfl
        rw [e]
      · rw [if_neg h1]
        have e : 2 * (n / 2) = n := by omega
        rw [e]

theorem jumpN_home {W H T S : Int} (hv : TV W H T S) (n : Nat) : ∀ D St : List S25, St.Nodup → (∀ p ∈ St, hasB W H p = true) → (jumpN W H T S n D St).Nodup ∧ ∀ p ∈ jumpN W H T S n D St, hasB W H p = true := by
  induction n using Nat.strongRecOn with
  | _ n ih =>
    intro D St h1 h2
    rw [jumpN]
    by_cases h0 : n = 0
    · rw [dif_pos h0]; exact ⟨h1, h2⟩
    · rw [dif_neg h0]
      refine ih (n / 2) (by omega) _ _ ?_ ?_
      · split
        · exact norm_nodup _
        · exact h1
      · split
        · exact movedL_home hv
        · exact h2

/-- Is this place's cell q? -/
def chi (W H T S : Int) (q p : S25) : Bool := decide (cellG W H T S p = q)
theorem peri_chi {W H T S : Int} (hv : TV W H T S) (q : S25) : Peri W H T S (chi W H T S q) := fun p p' h => by unfold chi; rw [cell_same hv h]
theorem mem_of_chi {W H T S : Int} (hv : TV W H T S) {l : List S25} (hn : l.Nodup) (hl : ∀ p ∈ l, hasB W H p = true) (q : S25) : q ∈ l ↔ par l (chi W H T S q) = true := by
  rw [mem_of_par hn q, par_congr (f := chi W H T S q) (g := fun p => decide (p = q)) (fun p hp => by unfold chi; rw [cell_home hv (hl p hp)])]
/-- Sets of cells that no test tells apart have the same cells. -/
theorem perm_of_par {W H T S : Int} (hv : TV W H T S) {l m : List S25} (hn : l.Nodup) (hl : ∀ p ∈ l, hasB W H p = true) (hm : m.Nodup) (hk : ∀ p ∈ m, hasB W H p = true)
    (h : ∀ G, Peri W H T S G → par l G = par m G) : l.Perm m :=
  (List.perm_ext_iff_of_nodup hn hm).2 fun q => by rw [mem_of_chi hv hn hl, mem_of_chi hv hm hk, h _ (peri_chi hv q)]

/-- What a jump answers. -/
def jumpS (W H T S : Int) (D L : List S25) (n : Nat) : List S25 := sortP (jumpN W H T S n (sortP (norm (nearL W H T S D))) L)
theorem par_jumpS {W H T S : Int} (hv : TV W H T S) {G : S25 → Bool} (h : Peri W H T S G) (D L : List S25) (n : Nat) : par (jumpS W H T S D L n) G = par L (opN n D G) := by
  unfold jumpS
  rw [par_perm (sortP_perm _), par_jumpN hv h, opN_near hv h]
theorem jumpS_nodup {W H T S : Int} (hv : TV W H T S) (D : List S25) {L : List S25} (n : Nat) (h1 : L.Nodup) (h2 : ∀ p ∈ L, hasB W H p = true) : (jumpS W H T S D L n).Nodup := (sortP_perm _).nodup_iff.2 (jumpN_home hv n _ _ h1 h2).1
theorem jumpS_home {W H T S : Int} (hv : TV W H T S) (D : List S25) {L : List S25} (n : Nat) (h1 : L.Nodup) (h2 : ∀ p ∈ L, hasB W H p = true) : ∀ p ∈ jumpS W H T S D L n, hasB W H p = true := fun p hp => (jumpN_home hv n _ _ h1 h2).2 p ((sortP_perm _).mem_iff.1 hp)
theorem jumpS_sorted (W H T S : Int) (D L : List S25) (n : Nat) : (jumpS W H T S D L n).Pairwise (fun a b => leP a b = true) := sortP_sorted _
/-- Two sorted sets of cells that no test tells apart are one list. -/
theorem eq_of_par {W H T S : Int} (hv : TV W H T S) {l m : List S25} (hn : l.Nodup) (hl : ∀ p ∈ l, hasB W H p = true) (hm : m.Nodup) (hk : ∀ p ∈ m, hasB W H p = true)
    (sl : l.Pairwise (fun a b => leP a b = true)) (sm : m.Pairwise (fun a b => leP a b = true)) (h : ∀ G, Peri W H T S G → par l G = par m G) : l = m :=
  sorted_unique l m (perm_of_par hv hn hl hm hk h) sl sm

/-! ### The three laws -/
end Go.Proofs.Ytomogkhdfaiekaa.PLin
