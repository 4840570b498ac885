/-
  Sums of places: what is left of a list where two of one kind go; no walk.
-/
import Derived.Test.YtomogkhdfaiekaaHTorus
namespace Go.Proofs.Ytomogkhdfaiekaa.PLin
open Go.Proofs.Ytomogkhdfaiekaa.HW Go.Proofs.Ytomogkhdfaiekaa.HSet Go.RowKit Go.Proofs.YtomogkhdfaiekaaW.PrintWords Go.Proofs.YtomogkhdfaiekaaW.PrintLast Go.Proofs.YtomogkhdfaiekaaW.PrintMore
set_option linter.unusedVariables false
set_option linter.unusedSimpArgs false

theorem mem_tog {S : List S25} (h : S.Nodup) (p q : S25) : q ∈ tog S p ↔ (if q = p then q ∉ S else q ∈ S) := by
  unfold tog
  by_cases hp : p ∈ S
  · rw [if_pos hp, h.mem_erase_iff]
    by_cases e : q = p
    · subst e; simp [hp]
    · simp [e]
  · rw [if_neg hp]
    by_cases e : q = p
    · subst e; simp [hp]
    · simp [e]

/-- How often a place must come to be there: an odd number of times. -/
theorem mem_fold_tog (l : List S25) (q : S25) : ∀ S : List S25, S.Nodup → (q ∈ l.foldl tog S ↔ ((if q ∈ S then 1 else 0) + l.count q) % 2 = 1) := by
  induction l with
  | nil => intro S h; simp only [List.foldl_nil, List.count_nil]; split <;> simp_all
  | cons p l ih =>
    intro S h
    rw [List.foldl_cons, ih _ (tog_nodup h p), List.count_cons]
    have := mem_tog h p q
    by_cases e : q = p
    · subst e
      rw [if_pos rfl] at this
      by_cases hq : q ∈ S
      · rw [if_neg (fun hh => (this.1 hh) hq), if_pos hq]; simp; omega
      · rw [if_pos (this.2 hq), if_neg hq]; simp; omega
    · rw [if_neg e] at this
      have e' : (p == q) = false := by rw [beq_eq_false_iff_ne]; exact fun h => e h.symm
      by_cases hq : q ∈ S
      · rw [if_pos (this.2 hq), if_pos hq, e']; simp
      · rw [if_neg (fun hh => hq (this.1 hh)), if_neg hq, e']; simp

theorem mem_norm (l : List S25) (q : S25) : q ∈ norm l ↔ l.count q % 2 = 1 := by
  unfold norm
  rw [mem_fold_tog l q [] List.nodup_nil]
  simp

theorem norm_perm_of (l l' : List S25) (h : ∀ q, l.count q % 2 = l'.count q % 2) : (norm l).Perm (norm l') :=
  (List.perm_ext_iff_of_nodup (norm_nodup l) (norm_nodup l')).2 fun q => by rw [mem_norm, mem_norm, h]

theorem norm_perm {l l' : List S25} (h : l.Perm l') : (norm l).Perm (norm l') := norm_perm_of l l' fun q => by rw [h.count_eq]

/-- The places of a torus. -/
def boxL (W H : Int) : List S25 := (List.range H.toNat).flatMap fun (j : Nat) => (List.range W.toNat).map fun (i : Nat) => ⟨(i : Int) - W / 2, (j : Int) - H / 2⟩
theorem boxL_length (W H : Int) : (boxL W H).length = H.toNat * W.toNat := by
  unfold boxL
  rw [List.length_flatMap]
  simp [List.map_const']
theorem mem_boxL {W H : Int} {p : S25} (h : hasB W H p = true) : p ∈ boxL W H := by
  unfold hasB at h
  rw [Bool.and_eq_true, decide_eq_true_eq, decide_eq_true_eq] at h
  unfold boxL
  rw [List.mem_flatMap]
  refine ⟨(p.f1 + H / 2).toNat, by rw [List.mem_range]; omega, List.mem_map.2 ⟨(p.f0 + W / 2).toNat, by rw [List.mem_range]; omega, ?_⟩⟩
  rw [S25.ext_iff']
  simp only; omega
theorem hasB_cellG {W H T S : Int} (hv : TV W H T S) (p : S25) : hasB W H (cellG W H T S p) = true := by
  have := cellG_home hv p
  unfold hasB
  rw [Bool.and_eq_true, decide_eq_true_eq, decide_eq_true_eq]
  exact this
/-- A set of a torus' cells has no more than the torus. -/
theorem box_len {W H : Int} {l : List S25} (hn : l.Nodup) (hall : ∀ p ∈ l, hasB W H p = true) : l.length ≤ H.toNat * W.toNat := by
  rw [← boxL_length]
  exact len_sub l _ hn fun p hp => mem_boxL (hall p hp)

/-- What a set is, seen from places that lie so far. -/
def movedL (W H T S : Int) (D St : List S25) : List S25 := D.flatMap fun d => St.map fun p => cellG W H T S ⟨p.f0 - (cellG W H T S d).f0, p.f1 - (cellG W H T S d).f1⟩
def doubledL (W H T S : Int) (D : List S25) : List S25 := D.map fun d => cellG W H T S ⟨2 * d.f0, 2 * d.f1⟩
def nearL (W H T S : Int) (D : List S25) : List S25 := D.map (cellG W H T S)

theorem movedL_home {W H T S : Int} (hv : TV W H T S) {D St : List S25} : ∀ p ∈ norm (movedL W H T S D St), hasB W H p = true := fun p hp => by
  obtain ⟨d, _, hp⟩ := List.mem_flatMap.1 (norm_sub hp)
  obtain ⟨q, _, rfl⟩ := List.mem_map.1 hp
  exact hasB_cellG hv _
theorem doubledL_home {W H T S : Int} (hv : TV W H T S) {D : List S25} : ∀ p ∈ norm (doubledL W H T S D), hasB W H p = true := fun p hp => by
  obtain ⟨d, _, rfl⟩ := List.mem_map.1 (norm_sub hp)
  exact hasB_cellG hv _
theorem nearL_home {W H T S : Int} (hv : TV W H T S) {D : List S25} : ∀ p ∈ norm (nearL W H T S D), hasB W H p = true := fun p hp => by
  obtain ⟨d, _, rfl⟩ := List.mem_map.1 (norm_sub hp)
  exact hasB_cellG hv _
theorem near_of_has {W H : Int} (h1 : W ≤ 65536) (h2 : H ≤ 65536) {p : S25} (h : hasB W H p = true) : (-65536 ≤ p.f0 ∧ p.f0 ≤ 65536) ∧ -65536 ≤ p.f1 ∧ p.f1 ≤ 65536 := by
  unfold hasB at h
  rw [Bool.and_eq_true, decide_eq_true_eq, decide_eq_true_eq] at h
  omega
theorem nearP_of {p : S25} (h : (-1099511627776 ≤ p.f0 ∧ p.f0 ≤ 1099511627776) ∧ -1099511627776 ≤ p.f1 ∧ p.f1 ≤ 1099511627776) : nearP p = true := by
  unfold nearP
  rw [Bool.and_eq_true, nearN_iff, nearN_iff]; exact h
end Go.Proofs.Ytomogkhdfaiekaa.PLin
