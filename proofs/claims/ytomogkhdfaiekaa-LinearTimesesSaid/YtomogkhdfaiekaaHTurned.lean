/-
  The document's sorted lists in which a place comes in or goes: what they are; no walk.
-/
import Derived.Test.YtomogkhdfaiekaaHMath
import Derived.Test.YtomogkhdfaiekaaHLent
import Derived.Test.YtomogkhdfaiekaaPLinx57
namespace Go.Proofs.Ytomogkhdfaiekaa.PLin
open Go.Proofs.Ytomogkhdfaiekaa.HW Go.Proofs.Ytomogkhdfaiekaa.HSet Go.RowKit Go.Proofs.YtomogkhdfaiekaaW.PrintWords Go.Proofs.YtomogkhdfaiekaaW.PrintLast Go.Proofs.YtomogkhdfaiekaaW.PrintMore
set_option linter.unusedVariables false
set_option linter.unusedSimpArgs false

theorem evT {α : Type} {g f : Nat → Option α} {r : α} (h : ∀ k, g (k + 1) = f k) (hf : Ev f r) : Ev g r := by
  obtain ⟨K, hK⟩ := hf
  refine ⟨K + 1, fun k hk => ?_⟩
  obtain ⟨j, rfl⟩ : ∃ j, k = j + 1 := ⟨k - 1, by omega⟩
  rw [h]; exact hK j (by omega)
theorem evT_now {α : Type} {g : Nat → Option α} {r : α} (h : ∀ k, g (k + 1) = some r) : Ev g r := evT (f := fun _ => some r) h (Ev.now r)

/-- Does a place stand ahead of another one? -/
def ltP (p q : S25) : Bool := decide (p.f1 < q.f1) || decide (p.f1 = q.f1) && decide (p.f0 < q.f0)
theorem ltP_iff (p q : S25) : ltP p q = true ↔ p.f1 < q.f1 ∨ p.f1 = q.f1 ∧ p.f0 < q.f0 := by
  unfold ltP
  rw [Bool.or_eq_true, Bool.and_eq_true, decide_eq_true_eq, decide_eq_true_eq, decide_eq_true_eq]
theorem ahead_eq (p q : S25) : vivariumref17_ahead.f p.f0 p.f1 q.f0 q.f1 = some (ltP p q) := by
  unfold vivariumref17_ahead.f ltP
  by_cases c : p.f1 < q.f1
  · rw [if_pos c, decide_eq_true c]; rfl
  · rw [if_neg c, decide_eq_false c]
    by_cases d : p.f1 = q.f1
    · rw [if_pos d, decide_eq_true d]; simp
    · rw [if_neg d, decide_eq_false d]; simp

def turnedL : List S25 → S25 → List S25
  | [], p => [p]
  | a :: l, p => if ltP a p = true then a :: turnedL l p else if a = p then l else p :: a :: l

theorem turnedL_len (l : List S25) (p : S25) : (turnedL l p).length ≤ l.length + 1 := by
  induction l with
  | nil => simp [turnedL]
  | cons a l ih =>
    unfold turnedL
    by_cases c : ltP a p = true
    · rw [if_pos c]; simp only [List.length_cons]; omega
    · rw [if_neg c]
      by_cases e : a = p
      · rw [if_pos e]; simp only [List.length_cons]; omega
      · rw [if_neg e]; simp only [List.length_cons]; omega
theorem par_turnedL (l : List S25) (p : S25) (g : S25 → Bool) : par (turnedL l p) g = xor (par l g) (g p) := by
  induction l with
  | nil => simp [turnedL]
  | cons a l ih =>
    unfold turnedL
    by_cases c : ltP a p = true
    · rw [if_pos c, par_cons, ih, par_cons, Bool.xor_assoc]
    · rw [if_neg c]
      by_cases e : a = p
      · rw [if_pos e, par_cons, e]; cases g p <;> cases par l g <;> rfl
      · rw [if_neg e, par_cons, Bool.xor_comm]

theorem turned_rest (l : List S25) (p : S25) (hl : l.length < 4000000000000) : ∀ (m i : Nat) (out : List S25), m + i = l.length → out.length ≤ i + 1 → Ev (fun k => vivariumref17_turned.l0 k l out true (i : Int) p.f0 p.f1) (out ++ l.drop i)
  | 0, i, out, h, ho => by
    rw [List.drop_eq_nil_of_le (by omega), List.append_nil]
    refine evT_now fun k => ?_
    rw [vivariumref17_turned.l0, if_neg (by omega), if_pos rfl]
  | m + 1, i, out, h, ho => by
    rw [rd_drop l i (by omega)]
    have ih := turned_rest l p hl m (i + 1) (out ++ [rd_T25 l (i : Int)]) (by omega) (by simp; omega)
    rw [List.append_assoc] at ih
    refine evT (f := fun k => vivariumref17_turned.j1 k l out true (i : Int) false p.f0 p.f1) (fun k => ?_) (evT (fun k => ?_) ih)
    · rw [vivariumref17_turned.l0, if_pos (by omega), if_pos rfl]
    · rw [vivariumref17_turned.j1, if_neg (by decide), if_pos (by omega), if_pos (by omega), if_pos (by omega), w64 (by omega) (by omega)]; rfl
theorem turned_loop (l : List S25) (p : S25) (hl : l.length < 4000000000000) : ∀ (m i : Nat) (out : List S25), m + i = l.length → out.length ≤ i → Ev (fun k => vivariumref17_turned.l0 k l out false (i : Int) p.f0 p.f1) (out ++ turnedL (l.drop i) p)
  | 0, i, out, h, ho => by
    rw [List.drop_eq_nil_of_le (by omega)]
    refine evT_now fun k => ?_
    rw [vivariumref17_turned.l0, if_neg (by omega), if_neg (by decide), if_pos (by omega)]; rfl
  | m + 1, i, out, h, ho => by
    rw [rd_drop l i (by omega)]
    unfold turnedL
    have e : ∀ k, vivariumref17_turned.l0 (k + 1) l out false (i : Int) p.f0 p.f1 = vivariumref17_turned.j1 k l out false (i : Int) (!ltP (rd_T25 l (i : Int)) p) p.f0 p.f1 := fun k => by
      rw [vivariumref17_turned.l0, if_pos (by omega), if_neg (by decide), if_pos (by omega), ahead_eq]; rfl
    by_cases c : ltP (rd_T25 l (i : Int)) p = true
    · rw [if_pos c]
      have ih := turned_loop l p hl m (i + 1) (out ++ [rd_T25 l (i : Int)]) (by omega) (by simp; omega)
      rw [List.append_assoc] at ih
      refine evT e ?_
      rw [c]
      refine evT (fun k => ?_) ih
      rw [vivariumref17_turned.j1, if_neg (by decide), if_pos (by omega), if_pos (by omega), if_pos (by omega), w64 (by omega) (by omega)]; rfl
    · rw [if_neg c]
      refine evT e ?_
      rw [Bool.eq_false_iff.2 c]
      by_cases d : rd_T25 l (i : Int) = p
      · rw [if_pos d]
        refine evT (fun k => ?_) (turned_rest l p hl m (i + 1) out (by omega) (by omega))
        rw [vivariumref17_turned.j1, if_pos (show (!false) = true from rfl), if_pos (by omega), if_pos (by omega), if_pos (by rw [d]; simp), w64 (by omega) (by omega)]; rfl
      · rw [if_neg d]
        have ih := turned_rest l p hl m (i + 1) (out ++ [p] ++ [rd_T25 l (i : Int)]) (by omega) (by simp; omega)
        rw [List.append_assoc, List.append_assoc] at ih
        refine evT (fun k => ?_) ih
        rw [vivariumref17_turned.j1, if_pos (show (!false) = true from rfl), if_pos (by omega), if_pos (by omega), if_neg (fun h => d (by rw [Bool.and_eq_true, beq_iff_eq, beq_iff_eq] at h; exact (S25.ext_iff' _ _).2 h)), if_pos (by omega), Option.bind_some, if_pos (by simp; omega), w64 (by omega) (by omega)]
        simp only [List.append_assoc]; rfl
theorem ev_turned (l : List S25) (p : S25) (hl : l.length < 4000000000000) : Ev (fun k => vivariumref17_turned.f k l p.f0 p.f1) (turnedL l p) := turned_loop l p hl l.length 0 [] (by omega) (by simp)

theorem turnedL_mem (l : List S25) (p q : S25) (h : q ∈ turnedL l p) : q ∈ l ∨ q = p := by
  induction l with
  | nil => simp [turnedL] at h; exact .inr h
  | cons a l ih =>
    unfold turnedL at h
    by_cases c : ltP a p = true
    · rw [if_pos c, List.mem_cons] at h
      rcases h with h | h
      · exact .inl (by simp [h])
      · rcases ih h with h | h
        · exact .inl (by simp [h])
        · exact .inr h
    · rw [if_neg c] at h
      by_cases e : a = p
      · rw [if_pos e] at h; exact .inl (by simp [h])
      · rw [if_neg e, List.mem_cons] at h
        rcases h with h | h
        · exact .inr h
        · exact .inl h
theorem turnedL_sorted (l : List S25) (p : S25) (h : l.Pairwise (fun a b => ltP a b = true)) : (turnedL l p).Pairwise (fun a b => ltP a b = true) := by
  induction l with
  | nil => simp [turnedL]
  | cons a l ih =>
    obtain ⟨h1, h2⟩ := List.pairwise_cons.1 h
    unfold turnedL
    by_cases c : ltP a p = true
    · rw [if_pos c]
      refine List.pairwise_cons.2 ⟨fun b hb => ?_, ih h2⟩
      rcases turnedL_mem l p b hb with hb | rfl
      · exact h1 b hb
      · exact c
    · rw [if_neg c]
      by_cases e : a = p
      · rw [if_pos e]; exact h2
      · rw [if_neg e]
        have hpa : ltP p a = true := by
          rw [ltP_iff] at c ⊢
          rw [S25.ext_iff'] at e
          omega
        refine List.pairwise_cons.2 ⟨fun b hb => ?_, h⟩
        rcases List.mem_cons.1 hb with rfl | hb
        · exact hpa
        · have := h1 b hb
          rw [ltP_iff] at this hpa ⊢; omega
theorem sorted_nodup {l : List S25} (h : l.Pairwise (fun a b => ltP a b = true)) : l.Nodup := h.imp fun {a b} hab e => by
  subst e; rw [ltP_iff] at hab; omega
theorem sorted_le {l : List S25} (h : l.Pairwise (fun a b => ltP a b = true)) : l.Pairwise (fun a b => leP a b = true) := h.imp fun {a b} hab => by
  rw [ltP_iff] at hab
  unfold leP
  rw [Bool.not_eq_true', decide_eq_false_iff_not, cfP_lt]; omega
end Go.Proofs.Ytomogkhdfaiekaa.PLin
