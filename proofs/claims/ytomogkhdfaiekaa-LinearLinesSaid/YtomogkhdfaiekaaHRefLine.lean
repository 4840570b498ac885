/-
  The document's Line is the program's; no walk.
-/
import Derived.Test.YtomogkhdfaiekaaHTurned
import Derived.Test.YtomogkhdfaiekaaHLineMath
import Derived.Test.YtomogkhdfaiekaaPLinx29
namespace Go.Proofs.Ytomogkhdfaiekaa.PLin
open Go.Proofs.Ytomogkhdfaiekaa.HW Go.Proofs.Ytomogkhdfaiekaa.HSet Go.RowKit Go.Proofs.YtomogkhdfaiekaaW.PrintWords Go.Proofs.YtomogkhdfaiekaaW.PrintLast Go.Proofs.YtomogkhdfaiekaaW.PrintMore
set_option linter.unusedVariables false
set_option linter.unusedSimpArgs false

theorem refline_l7 (C : List S25) (hC : C.length < 9223372036854775807) : ∀ m i : Nat, m + i = C.length → Ev (fun k => vivariumref17_Line.l7 k C (i : Int)) ((C.drop i).any (fun p => decide (p.f0 = 0)), 0)
  | 0, i, h => by
    rw [List.drop_eq_nil_of_le (by omega)]
    refine evT_now fun k => ?_
    rw [vivariumref17_Line.l7, if_neg (by omega)]; rfl
  | m + 1, i, h => by
    rw [rd_drop C i (by omega), List.any_cons]
    by_cases c : (rd_T25 C (i : Int)).f0 = 0
    · rw [decide_eq_true c, Bool.true_or]
      refine evT_now fun k => ?_
      rw [vivariumref17_Line.l7, if_pos (by omega), if_pos (by omega), if_pos c]
    · rw [decide_eq_false c, Bool.false_or]
      refine evT (fun k => ?_) (refline_l7 C hC m (i + 1) (by omega))
      rw [vivariumref17_Line.l7, if_pos (by omega), if_pos (by omega), if_neg c, w64 (by omega) (by omega)]; rfl

/-- The half. -/
theorem refline_l6 (l : List Int) (n : Int) (hn : 0 ≤ n ∧ n ≤ 9223372036854775807) (C : List S25) (hC : C.length < 4000000000000) (hb : ∀ p ∈ C, -4611686018427387904 ≤ p.f0 ∧ p.f0 ≤ 4611686018427387904) (r : Bool × Int) :
    ∀ (m i : Nat) (out : List S25), m + i = C.length → out.length ≤ i → Ev (fun k => vivariumref17_Line.l3 k l (n / 2) (out ++ halves (C.drop i))) r → Ev (fun k => vivariumref17_Line.l6 k l n C out (i : Int)) r
  | 0, i, out, h, ho, hK => by
    rw [List.drop_eq_nil_of_le (by omega)] at hK
    rw [show halves [] = [] from rfl, List.append_nil] at hK
    refine evT (fun k => ?_) hK
    rw [vivariumref17_Line.l6, if_neg (by omega), Int.tdiv_eq_ediv_of_nonneg hn.1, w64 (by omega) (by omega)]
  | m + 1, i, out, h, ho, hK => by
    rw [rd_drop C i (by omega)] at hK
    have hp := hb _ (rd_mem C i (by omega) i rfl)
    by_cases c : (rd_T25 C (i : Int)).f0 % 2 = 0
    · have hh : halves (rd_T25 C (i : Int) :: C.drop (i + 1)) = halfP (rd_T25 C (i : Int)) :: halves (C.drop (i + 1)) := by
        unfold halves; rw [List.filter_cons, if_pos (show evenP _ = true from decide_eq_true c)]; rfl
      rw [hh] at hK
      have ih := refline_l6 l n hn C hC hb r m (i + 1) (out ++ [halfP (rd_T25 C (i : Int))]) (by omega) (by simp; omega) (by rw [List.append_assoc]; exact hK)
      refine evT (fun k => ?_) ih
      have ht : Int.tmod (rd_T25 C (i : Int)).f0 2 = 0 := by
        have := Int.dvd_of_emod_eq_zero c
        exact Int.tmod_eq_zero_of_dvd this
      rw [vivariumref17_Line.l6, if_pos (by omega), if_pos (by omega), if_pos ht, if_pos (by omega), Int.tdiv_eq_ediv_of_dvd (Int.dvd_of_emod_eq_zero c), w64 (a := (rd_T25 C (i : Int)).f0 / 2) (by omega) (by omega), w64 (by omega) (by omega)]; rfl
    · have hh : halves (rd_T25 C (i : Int) :: C.drop (i + 1)) = halves (C.drop (i + 1)) := by
        unfold halves; rw [List.filter_cons, if_neg (show ¬ evenP _ = true from fun h => c (of_decide_eq_true h))]
      rw [hh] at hK
      have ih := refline_l6 l n hn C hC hb r m (i + 1) out (by omega) (by omega) hK
      refine evT (fun k => ?_) ih
      have ht : ¬ Int.tmod (rd_T25 C (i : Int)).f0 2 = 0 := fun h => c (Int.emod_eq_zero_of_dvd (Int.dvd_of_tmod_eq_zero h))
      rw [vivariumref17_Line.l6, if_pos (by omega), if_pos (by omega), if_neg ht, w64 (by omega) (by omega)]; rfl

theorem ev_bind {α β : Type} {g : Nat → Option α} {f : Nat → α → Option β} {a : α} {r : β} (h1 : Ev g a) (h2 : Ev (fun k => f k a) r) : Ev (fun k => (g k).bind (f k)) r := by
  obtain ⟨K1, h1⟩ := h1
  obtain ⟨K2, h2⟩ := h2
  refine ⟨K1 + K2, fun k hk => ?_⟩
  show (g k).bind (f k) = some r
  rw [h1 k (by omega)]
  exact h2 k (by omega)

theorem fold_turnedL_len (m : List S25) : ∀ out : List S25, (m.foldl turnedL out).length ≤ out.length + m.length := by
  induction m with
  | nil => intro out; simp
  | cons p m ih => intro out; rw [List.foldl_cons]; have := ih (turnedL out p); have := turnedL_len out p; simp only [List.length_cons]; omega
theorem par_fold_turnedL (m : List S25) (g : S25 → Bool) : ∀ out : List S25, par (m.foldl turnedL out) g = xor (par out g) (par m g) := by
  induction m with
  | nil => intro out; simp
  | cons p m ih => intro out; rw [List.foldl_cons, ih, par_turnedL, par_cons, Bool.xor_assoc]
theorem fold_turnedL_sorted (m : List S25) : ∀ out : List S25, out.Pairwise (fun a b => ltP a b = true) → (m.foldl turnedL out).Pairwise (fun a b => ltP a b = true) := by
  induction m with
  | nil => intro out h; exact h
  | cons p m ih => intro out h; exact ih _ (turnedL_sorted out p h)
theorem fold_turnedL_mem (m : List S25) (q : S25) : ∀ out : List S25, q ∈ m.foldl turnedL out → q ∈ out ∨ q ∈ m := by
  induction m with
  | nil => intro out h; exact .inl h
  | cons p m ih =>
    intro out h
    rw [List.foldl_cons] at h
    rcases ih _ h with h | h
    · rcases turnedL_mem out p q h with h | h
      · exact .inl h
      · exact .inr (by simp [h])
    · exact .inr (by simp [h])

theorem refline_l5 (l : List Int) (hl : l.length ≤ 64) (hd : ∀ d ∈ l, -64 ≤ d ∧ d ≤ 64) (n : Int) (C : List S25) (hC : C.length < 1000000) (hb : ∀ p ∈ C, -4611686018427387904 ≤ p.f0 ∧ p.f0 ≤ 4611686018427387904) (r : Bool × Int) (i : Nat) (hi : i < C.length) :
    ∀ (m j : Nat) (out : List S25), m + j = l.length → out.length ≤ i * 64 + j →
      Ev (fun k => vivariumref17_Line.l4 k l n C ((shiftL (l.drop j) (rd_T25 C (i : Int))).foldl turnedL out) ((i : Int) + 1)) r →
      Ev (fun k => vivariumref17_Line.l5 k l n C out (i : Int) (j : Int)) r
  | 0, j, out, h, ho, hK => by
    rw [List.drop_eq_nil_of_le (by omega)] at hK
    refine evT (fun k => ?_) hK
    rw [vivariumref17_Line.l5, if_neg (by omega), w64 (by omega) (by omega)]; rfl
  | m + 1, j, out, h, ho, hK => by
    have hp := hb _ (rd_mem C i hi i rfl)
    have hdj := hd _ (rdI_mem l j (by omega))
    have hdr : l.drop j = rd l (j : Int) :: l.drop (j + 1) := by
      rw [List.drop_eq_getElem_cons (by omega)]
      unfold rd
      simp [show j < l.length by omega]
    rw [hdr] at hK
    have hlen := turnedL_len out ⟨(rd_T25 C (i : Int)).f0 + rd l (j : Int), 0⟩
    have ih := refline_l5 l hl hd n C hC hb r i hi m (j + 1) (turnedL out ⟨(rd_T25 C (i : Int)).f0 + rd l (j : Int), 0⟩) (by omega) (by omega) hK
    have hb2 := ev_bind (f := fun k t => vivariumref17_Line.l5 k l n C t (i : Int) ((j + 1 : Nat) : Int)) (ev_turned out ⟨(rd_T25 C (i : Int)).f0 + rd l (j : Int), 0⟩ (by omega)) ih
    refine evT (fun k => ?_) hb2
    rw [vivariumref17_Line.l5, if_pos (by omega), if_pos (by omega), if_pos (by omega), if_pos (by omega), w64 (a := (rd_T25 C (i : Int)).f0 + rd l (j : Int)) (by omega) (by omega), w64 (by omega) (by omega)]; rfl

theorem refline_l4 (l : List Int) (hl : l.length ≤ 64) (hd : ∀ d ∈ l, -64 ≤ d ∧ d ≤ 64) (n : Int) (C : List S25) (hC : C.length < 1000000) (hb : ∀ p ∈ C, -4611686018427387904 ≤ p.f0 ∧ p.f0 ≤ 4611686018427387904) (r : Bool × Int) :
    ∀ (m i : Nat) (out : List S25), m + i = C.length → out.length ≤ i * 64 →
      Ev (fun k => vivariumref17_Line.j7 k l n (((C.drop i).flatMap (shiftL l)).foldl turnedL out)) r →
      Ev (fun k => vivariumref17_Line.l4 k l n C out (i : Int)) r
  | 0, i, out, h, ho, hK => by
    rw [List.drop_eq_nil_of_le (by omega)] at hK
    refine evT (fun k => ?_) hK
    rw [vivariumref17_Line.l4, if_neg (by omega)]; rfl
  | m + 1, i, out, h, ho, hK => by
    rw [rd_drop C i (by omega), List.flatMap_cons, List.foldl_append] at hK
    have hlen := fold_turnedL_len (shiftL l (rd_T25 C (i : Int))) out
    have hsl : (shiftL l (rd_T25 C (i : Int))).length = l.length := by unfold shiftL; simp
    have ih := refline_l4 l hl hd n C hC hb r m (i + 1) ((shiftL l (rd_T25 C (i : Int))).foldl turnedL out) (by omega) (by omega) hK
    refine evT (f := fun k => vivariumref17_Line.l5 k l n C out (i : Int) ((0 : Nat) : Int)) (fun k => ?_) (refline_l5 l hl hd n C hC hb r i (by omega) l.length 0 out (by omega) (by omega) ?_)
    · rw [vivariumref17_Line.l4, if_pos (by omega)]; rfl
    · rw [List.drop_zero, show (i : Int) + 1 = ((i + 1 : Nat) : Int) by omega]; exact ih

theorem any_zero {C : List S25} (hn : C.Nodup) (h1 : ∀ p ∈ C, p.f1 = 0) : C.any (fun p => decide (p.f0 = 0)) = par C fun p => unitF p.f0 := by
  rw [par_congr (f := fun p : S25 => unitF p.f0) (g := fun p => decide (p = ⟨0, 0⟩)) (fun p hp => by
    unfold unitF
    rw [Bool.eq_iff_iff, decide_eq_true_eq, decide_eq_true_eq, S25.ext_iff']
    have := h1 p hp
    simp only; omega)]
  rw [Bool.eq_iff_iff, ← mem_of_par hn, List.any_eq_true]
  constructor
  · rintro ⟨p, hp, h⟩
    have h := of_decide_eq_true h
    have h2 := h1 p hp
    rwa [show p = ⟨0, 0⟩ from (S25.ext_iff' _ _).2 ⟨h, h2⟩] at hp
  · intro h; exact ⟨_, h, by simp⟩

theorem halves_sorted {C : List S25} (h : C.Pairwise (fun a b => ltP a b = true)) (h1 : ∀ p ∈ C, p.f1 = 0) : (halves C).Pairwise (fun a b => ltP a b = true) := by
  unfold halves
  rw [List.pairwise_map]
  refine (List.Pairwise.filter _ h).imp_of_mem ?_
  intro p q hp hq hlt
  obtain ⟨hp, he⟩ := List.mem_filter.1 hp
  obtain ⟨hq, he2⟩ := List.mem_filter.1 hq
  have a := of_decide_eq_true he; have b := of_decide_eq_true he2
  have := h1 p hp; have := h1 q hq
  rw [ltP_iff] at hlt ⊢
  exact .inr ⟨rfl, by unfold halfP; simp only; omega⟩

theorem refline_l3 (l : List Int) (hl : l.length ≤ 64) (hin : l.all inLine = true) (n : Nat) : n ≤ 1125899906842624 → ∀ (C : List S25) (c : Int), C.Pairwise (fun a b => ltP a b = true) → Win c 64 C → (-144115188075855872 ≤ c ∧ c ≤ 144115188075855872) →
    Ev (fun k => vivariumref17_Line.l3 k l (n : Int) C) (par C (fun p => itF l n unitF p.f0), 0) := by
  have hd : ∀ d ∈ l, -64 ≤ d ∧ d ≤ 64 := fun d hd => by
    have := List.all_eq_true.1 hin d hd
    unfold inLine at this
    rw [Bool.and_eq_true, decide_eq_true_eq, decide_eq_true_eq] at this
    exact this
  induction n using Nat.strongRecOn with
  | _ n ih =>
    intro hn C c hs hw hc
    have hlen := win_len (r := 64) hw (sorted_nodup hs)
    have hb : ∀ p ∈ C, -4611686018427387904 ≤ p.f0 ∧ p.f0 ≤ 4611686018427387904 := fun p hp => by have := hw p hp; omega
    by_cases h0 : n = 0
    · subst h0
      have h7 := refline_l7 C (by omega) C.length 0 (by omega)
      rw [List.drop_zero, any_zero (sorted_nodup hs) (fun p hp => (hw p hp).2)] at h7
      refine evT (fun k => ?_) h7
      rw [vivariumref17_Line.l3, if_neg (by omega)]; rfl
    · by_cases h1 : n % 2 = 1
      · have hsM := fold_turnedL_sorted (C.flatMap (shiftL l)) [] List.Pairwise.nil
        have hwM : Win c 128 ((C.flatMap (shiftL l)).foldl turnedL []) := fun p hp => by
          rcases fold_turnedL_mem _ p [] hp with h | h
          · simp at h
          · have := win_next hin n hw p (by unfold nextL; rw [if_pos h1]; exact h)
            exact this
        have hlM := win_len (r := 128) hwM (sorted_nodup hsM)
        have hbM : ∀ p ∈ (C.flatMap (shiftL l)).foldl turnedL [], -4611686018427387904 ≤ p.f0 ∧ p.f0 ≤ 4611686018427387904 := fun p hp => by have := hwM p hp; omega
        have key := ih (n / 2) (by omega) (by omega) _ (c / 2) (halves_sorted hsM (fun p hp => (hwM p hp).2)) (win_halves hwM) (by omega)
        have hpar : par (halves ((C.flatMap (shiftL l)).foldl turnedL [])) (fun p => itF l (n / 2) unitF p.f0) = par C fun p => itF l n unitF p.f0 := by
          rw [par_halves, ← itF_even, par_fold_turnedL, par_nil, Bool.false_xor, par_flatMap]
          refine par_congr fun p _ => ?_
          rw [par_shiftL]
          have e : n = 2 * (n / 2) + 1 := by omega
          exact (congrArg (fun k => itF l k unitF p.f0) e).symm
        rw [hpar] at key
        have h6 := refline_l6 l (n : Int) (by omega) _ (by omega) hbM _ _ 0 [] (Nat.add_zero _) (by simp) (by rw [List.drop_zero, List.nil_append, show (n : Int) / 2 = ((n / 2 : Nat) : Int) by omega]; exact key)
        have h4 := refline_l4 l hl hd (n : Int) C (by omega) hb _ C.length 0 [] (by omega) (by simp) (by rw [List.drop_zero]; exact evT (fun k => by rw [vivariumref17_Line.j7]; rfl) h6)
        refine evT (fun k => ?_) h4
        rw [vivariumref17_Line.l3, if_pos (by omega), if_pos (by rw [Int.tmod_eq_emod_of_nonneg (by omega)]; omega)]; rfl
      · have hw2 : Win c 128 C := fun p hp => by have := hw p hp; omega
        have key := ih (n / 2) (by omega) (by omega) _ (c / 2) (halves_sorted hs (fun p hp => (hw p hp).2)) (win_halves hw2) (by omega)
        have hpar : par (halves C) (fun p => itF l (n / 2) unitF p.f0) = par C fun p => itF l n unitF p.f0 := by
          rw [par_halves, ← itF_even, show 2 * (n / 2) = n by omega]
        rw [hpar] at key
        have h6 := refline_l6 l (n : Int) (by omega) C (by omega) hb _ _ 0 [] (Nat.add_zero _) (by simp) (by rw [List.drop_zero, List.nil_append, show (n : Int) / 2 = ((n / 2 : Nat) : Int) by omega]; exact key)
        refine evT (f := fun k => vivariumref17_Line.j7 k l (n : Int) C) (fun k => ?_) (evT (fun k => by rw [vivariumref17_Line.j7]; rfl) h6)
        rw [vivariumref17_Line.l3, if_pos (by omega), if_neg (by rw [Int.tmod_eq_emod_of_nonneg (by omega)]; omega)]

/-- What the document's Line answers of offsets that may be. -/
def lineB (l : List Int) (n x : Int) : Bool × Int :=
  if n < 0 then (false, 2) else if n > 1125899906842624 then (false, 5)
  else if x > 64 * n ∨ x < -64 * n then (false, 0) else (itF l n.toNat unitF x, 0)

theorem refline_end (l : List Int) (hl : l.length ≤ 64) (hin : l.all inLine = true) (n x : Int) (i : Nat) (hi : i = l.length) : Ev (fun k => vivariumref17_Line.l1 k l n x (i : Int)) (lineB l n x) := by
  unfold lineB
  by_cases c1 : n < 0
  · rw [if_pos c1]
    refine evT_now fun k => ?_
    rw [vivariumref17_Line.l1, if_neg (by omega)]
    unfold vivariumref17_number.f
    rw [if_pos c1]; rfl
  rw [if_neg c1]
  by_cases c2 : n > 1125899906842624
  · rw [if_pos c2]
    refine evT_now fun k => ?_
    rw [vivariumref17_Line.l1, if_neg (by omega)]
    unfold vivariumref17_number.f
    rw [if_neg c1, if_pos c2]; rfl
  rw [if_neg c2]
  have hnum : vivariumref17_number.f n = some 0 := by unfold vivariumref17_number.f; rw [if_neg c1, if_neg c2]
  have e : ∀ k, vivariumref17_Line.l1 (k + 1) l n x (i : Int) = vivariumref17_Line.j3 k l n x (decide (x > 64 * n ∨ x < -64 * n)) := fun k => by
    rw [vivariumref17_Line.l1, if_neg (by omega), hnum, Option.bind_some, if_pos rfl, w64 (by omega) (by omega), w64 (by omega) (by omega)]
    by_cases a : x > 64 * n
    · rw [if_pos a, decide_eq_true (.inl a)]
    · rw [if_neg a]
      congr 1
      rw [Bool.eq_iff_iff, decide_eq_true_eq, decide_eq_true_eq]; omega
  refine evT e ?_
  by_cases c3 : x > 64 * n ∨ x < -64 * n
  · rw [if_pos c3, decide_eq_true c3]
    exact evT_now fun k => by rw [vivariumref17_Line.j3, if_pos rfl]
  · rw [if_neg c3, decide_eq_false c3]
    obtain ⟨m, rfl⟩ : ∃ m : Nat, n = m := ⟨n.toNat, by omega⟩
    have key := refline_l3 l hl hin m (by omega) [⟨x, 0⟩] x (by simp) (fun p hp => by rw [List.mem_singleton] at hp; subst hp; exact ⟨⟨by simp only; omega, by simp only; omega⟩, rfl⟩) (by omega)
    rw [par_cons, par_nil, Bool.xor_false] at key
    rw [Int.toNat_natCast]
    exact evT (fun k => by rw [vivariumref17_Line.j3, if_neg (by decide)]) key

theorem refline_l2 (l : List Int) (hl : l.length ≤ 64) (n x : Int) (i : Nat) (hi : i < l.length) (r : Bool × Int) (hK : rd l (i : Int) ∉ l.take i → Ev (fun k => vivariumref17_Line.l1 k l n x ((i : Int) + 1)) r) :
    ∀ m j : Nat, m + j = i → rd l (i : Int) ∉ l.take j → Ev (fun k => vivariumref17_Line.l2 k l n x (i : Int) (j : Int)) (if rd l (i : Int) ∈ l.take i then (false, 170) else r)
  | 0, j, h, hj => by
    obtain rfl : j = i := by omega
    rw [if_neg hj]
    refine evT (fun k => ?_) (hK hj)
    rw [vivariumref17_Line.l2, if_neg (by omega), w64 (by omega) (by omega)]
  | m + 1, j, h, hj => by
    by_cases c : rd l (i : Int) = rd l (j : Int)
    · have hm : rd l (i : Int) ∈ l.take i := by
        rw [c]
        have h1 : rd l (j : Int) ∈ l.take (j + 1) := by rw [take_succ_rdI l j (by omega)]; simp
        exact (List.take_sublist_take_left (by omega)).subset h1
      rw [if_pos hm]
      refine evT_now fun k => ?_
      rw [vivariumref17_Line.l2, if_pos (by omega), if_pos (by omega), if_pos (by omega), if_pos (by omega), if_pos (by omega), if_pos c]
    · have hj2 : rd l (i : Int) ∉ l.take (j + 1) := by
        rw [take_succ_rdI l j (by omega), List.mem_append, List.mem_singleton]
        exact fun h => h.elim hj c
      refine evT (fun k => ?_) (refline_l2 l hl n x i hi r hK m (j + 1) (by omega) hj2)
      rw [vivariumref17_Line.l2, if_pos (by omega), if_pos (by omega), if_pos (by omega), if_pos (by omega), if_pos (by omega), if_neg c, w64 (by omega) (by omega)]; rfl

theorem refline_l1 (l : List Int) (hl : l.length ≤ 64) (hin : l.all inLine = true) (n x : Int) : ∀ m i : Nat, m + i = l.length → (l.take i).Nodup → Ev (fun k => vivariumref17_Line.l1 k l n x (i : Int)) (if l.Nodup then lineB l n x else (false, 170))
  | 0, i, h, hn => by
    rw [List.take_of_length_le (by omega)] at hn
    rw [if_pos hn]
    exact refline_end l hl hin n x i (by omega)
  | m + 1, i, h, hn => by
    refine evT (f := fun k => vivariumref17_Line.l2 k l n x (i : Int) ((0 : Nat) : Int)) (fun k => ?_) ?_
    · rw [vivariumref17_Line.l1, if_pos (by omega)]; rfl
    have key := refline_l2 l hl n x i (by omega) (if l.Nodup then lineB l n x else (false, 170)) (fun c => by
      have h2 : (l.take (i + 1)).Nodup := by
        rw [take_succ_rdI l i (by omega)]
        exact List.nodup_append.2 ⟨hn, by simp, fun x hx y hy e => by simp at hy; subst hy; subst e; exact c hx⟩
      have ih := refline_l1 l hl hin n x m (i + 1) (by omega) h2
      rwa [show ((i + 1 : Nat) : Int) = (i : Int) + 1 by omega] at ih) i 0 (by omega) (by simp)
    by_cases c : rd l (i : Int) ∈ l.take i
    · have hno : ¬ l.Nodup := fun hh => by
        have h2 : (l.take (i + 1)).Nodup := List.Nodup.sublist (List.take_sublist _ _) hh
        rw [take_succ_rdI l i (by omega)] at h2
        exact (List.nodup_append.1 h2).2.2 _ c _ (by simp) rfl
      rw [if_neg hno]
      rwa [if_pos c] at key
    · rwa [if_neg c] at key

theorem refline_l0 (l : List Int) (hl : l.length ≤ 64) (n x : Int) : ∀ m i : Nat, m + i = l.length → (l.take i).all inLine = true → Ev (fun k => vivariumref17_Line.l0 k l n x (i : Int)) (if l.all inLine = true then (if l.Nodup then lineB l n x else (false, 170)) else (false, 5))
  | 0, i, h, ha => by
    rw [List.take_of_length_le (by omega)] at ha
    rw [if_pos ha]
    refine evT (f := fun k => vivariumref17_Line.l1 k l n x ((0 : Nat) : Int)) (fun k => ?_) (refline_l1 l hl ha n x l.length 0 (by omega) (by simp))
    rw [vivariumref17_Line.l0, if_neg (by omega)]; rfl
  | m + 1, i, h, ha => by
    have hmem := rdI_mem l i (by omega)
    by_cases c1 : rd l (i : Int) < -64
    · rw [if_neg (fun hall => by have := List.all_eq_true.1 hall _ hmem; unfold inLine at this; rw [Bool.and_eq_true, decide_eq_true_eq] at this; omega)]
      refine evT_now fun k => ?_
      rw [vivariumref17_Line.l0, if_pos (by omega), if_pos (by omega), if_pos c1]
    by_cases c2 : rd l (i : Int) > 64
    · rw [if_neg (fun hall => by have := List.all_eq_true.1 hall _ hmem; unfold inLine at this; rw [Bool.and_eq_true, decide_eq_true_eq, decide_eq_true_eq] at this; omega)]
      refine evT_now fun k => ?_
      rw [vivariumref17_Line.l0, if_pos (by omega), if_pos (by omega), if_neg c1, if_pos c2]
    have hin : inLine (rd l (i : Int)) = true := by unfold inLine; rw [Bool.and_eq_true, decide_eq_true_eq, decide_eq_true_eq]; omega
    refine evT (fun k => ?_) (refline_l0 l hl n x m (i + 1) (by omega) (by rw [take_succ_rdI l i (by omega), List.all_append, ha]; simp [hin]))
    rw [vivariumref17_Line.l0, if_pos (by omega), if_pos (by omega), if_neg c1, if_neg c2, w64 (by omega) (by omega)]; rfl

/-- The document's Line is the program's. -/
theorem ev_Line (l : List Int) (n x : Int) : Ev (fun k => vivariumref17_Line.f k l n x) (lineA l n x) := by
  have key : lineA l n x = if l.length > 64 then (false, 6) else if l.all inLine = true then (if l.Nodup then lineB l n x else (false, 170)) else (false, 5) := by
    unfold lineA lineE
    by_cases c : l.length > 64
    · rw [if_pos c, if_pos c, if_neg (by decide)]
    · rw [if_neg c, if_neg c]
      by_cases h : l.all inLine = true
      · rw [if_pos h, if_pos h]
        by_cases hn : l.Nodup
        · rw [if_pos hn, if_pos hn, if_pos rfl]
          unfold lineB
          rw [line_lives h]
        · rw [if_neg hn, if_neg hn, if_neg (by decide)]
      · rw [if_neg h, if_neg h, if_neg (by decide)]
  rw [key]
  by_cases c : l.length > 64
  · rw [if_pos c]
    exact ⟨0, fun k _ => by show vivariumref17_Line.f k l n x = _; unfold vivariumref17_Line.f; rw [if_pos (by omega)]⟩
  · rw [if_neg c]
    obtain ⟨K, hK⟩ := refline_l0 l (by omega) n x l.length 0 (by omega) (by simp)
    exact ⟨K, fun k hk => by show vivariumref17_Line.f k l n x = _; unfold vivariumref17_Line.f; rw [if_neg (by omega)]; exact hK k hk⟩
end Go.Proofs.Ytomogkhdfaiekaa.PLin
