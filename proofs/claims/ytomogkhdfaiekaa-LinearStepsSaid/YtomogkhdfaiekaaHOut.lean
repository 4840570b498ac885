/-
  linear's statements without the document's answer: the lists that they make (once, cells, either, alike), in closed form; no walk.
-/
import Derived.Test.YtomogkhdfaiekaaHAlive
import Derived.Test.YtomogkhdfaiekaaPLinx30
import Derived.Test.YtomogkhdfaiekaaPLinx31
import Derived.Test.YtomogkhdfaiekaaPLinx32
import Derived.Test.YtomogkhdfaiekaaPLinx34
namespace Go.Proofs.Ytomogkhdfaiekaa.PLin
open Go.Proofs.Ytomogkhdfaiekaa.HW Go.Proofs.Ytomogkhdfaiekaa.HSet Go.RowKit Go.Proofs.YtomogkhdfaiekaaW.PrintWords Go.Proofs.YtomogkhdfaiekaaW.PrintLast Go.Proofs.YtomogkhdfaiekaaW.PrintMore
set_option linter.unusedVariables false
set_option linter.unusedSimpArgs false

theorem ev_end {α : Type} {g : Nat → Option α} {r : α} (h : ∀ k, g (k + 1) = some r) : Ev g r := Ev.step (f := fun _ => some r) h (Ev.now r)

/-- A place brought near. -/
def nearQ (p : S25) : S25 := ⟨Int.tmod p.f0 1000, Int.tmod p.f1 1000⟩
def onceF (most : Nat) : List S25 → List S25 → List S25
  | [], out => out
  | p :: l, out => if out.length < most then onceF most l (if nearQ p ∈ out then out else out ++ [nearQ p]) else out
def onceL (l : List S25) (most : Nat) : List S25 := onceF most (l.take 400) []

theorem rd_eq_iff (p q : S25) : (p.f0 == q.f0 && (p.f1 == q.f1)) = true ↔ p = q := by
  rw [Bool.and_eq_true, beq_iff_eq, beq_iff_eq, S25.ext_iff']

theorem once_l1 (l : List S25) (most : Int) (out : List S25) (i : Int) (q : S25) (hq : out.length ≤ 400) (r : List S25) : ∀ m j : Nat, m + j = out.length → ∀ b : Bool,
    Ev (fun k => vivariumlaw17_once.l0 k l most (if b = true ∧ q ∉ out.drop j then out ++ [q] else out) (wrap64 (i + 1))) r → Ev (fun k => vivariumlaw17_once.l1 k l most out i b (j : Int) q.f0 q.f1) r
  | 0, j, h, b, hK => by
    rw [List.drop_eq_nil_of_le (by omega)] at hK
    refine Ev.step (fun k => ?_) hK
    rw [vivariumlaw17_once.l1, if_neg (by omega)]
    cases b with
    | true => rw [if_pos rfl, if_pos (by omega), if_pos ⟨rfl, by simp⟩]
    | false => rw [if_neg (by simp), if_neg (by simp)]
  | m + 1, j, h, b, hK => by
    by_cases e : rd_T25 out (j : Int) = q
    · have ih := once_l1 l most out i q hq r m (j + 1) (by omega) false (by
        rw [if_neg (by simp)]
        rwa [if_neg (by rw [rd_drop out j (by omega), e]; simp)] at hK)
      refine Ev.step (fun k => ?_) ih
      rw [vivariumlaw17_once.l1, if_pos (by omega), if_pos (by omega), if_pos ((rd_eq_iff _ _).2 e), w64 (by omega) (by omega)]; rfl
    · have ih := once_l1 l most out i q hq r m (j + 1) (by omega) b (by
        have hd : (q ∉ out.drop j) ↔ (q ∉ out.drop (j + 1)) := by
          rw [rd_drop out j (by omega), List.mem_cons]
          exact ⟨fun h h' => h (.inr h'), fun h h' => h'.elim (fun h2 => e h2.symm) h⟩
        simpa only [hd] using hK)
      refine Ev.step (fun k => ?_) ih
      rw [vivariumlaw17_once.l1, if_pos (by omega), if_pos (by omega), if_neg (fun h => e ((rd_eq_iff _ _).1 h)), w64 (by omega) (by omega)]; rfl

theorem once_l0 (l : List S25) (most : Nat) (hm : most ≤ 400) (hl : l.length < 9223372036854775807) : ∀ m i : Nat, m + i = (l.take 400).length → ∀ out : List S25, out.length ≤ most →
    Ev (fun k => vivariumlaw17_once.l0 k l (most : Int) out (i : Int)) (onceF most ((l.take 400).drop i) out)
  | 0, i, h, out, ho => by
    rw [List.drop_eq_nil_of_le (by omega)]
    rw [List.length_take] at h
    refine Ev.step (f := fun k => vivariumlaw17_once.j1 k l (most : Int) out (i : Int) false) (fun k => ?_) (ev_end fun k => ?_)
    · rw [vivariumlaw17_once.l0]
      by_cases c : (i : Int) < (l.length : Int)
      · rw [if_pos c]
        by_cases d : (out.length : Int) < (most : Int)
        · rw [if_pos d, decide_eq_false (by omega)]
        · rw [if_neg d]
      · rw [if_neg c]
    · rw [vivariumlaw17_once.j1, if_neg (by simp)]; rfl
  | m + 1, i, h, out, ho => by
    have hi : i < (l.take 400).length := by omega
    have hi2 : i < l.length ∧ i < 400 := by rw [List.length_take] at hi; omega
    have hd : (l.take 400).drop i = rd_T25 l (i : Int) :: (l.take 400).drop (i + 1) := by
      rw [rd_drop _ i hi]
      congr 1
      unfold rd_T25
      simp [hi2.1, hi2.2]
    rw [hd]
    unfold onceF
    by_cases d : out.length < most
    · rw [if_pos d]
      refine Ev.step (f := fun k => vivariumlaw17_once.j1 k l (most : Int) out (i : Int) true) (fun k => ?_) (Ev.step (fun k => ?_) (once_l1 l most out i (nearQ (rd_T25 l (i : Int))) (by omega) _ out.length 0 (by omega) true ?_))
      · rw [vivariumlaw17_once.l0, if_pos (by omega), if_pos (by omega), decide_eq_true (by omega)]
      · rw [vivariumlaw17_once.j1, if_pos rfl, if_pos (by omega), if_pos (by omega)]; rfl
      · rw [List.drop_zero, show wrap64 ((i : Int) + 1) = ((i + 1 : Nat) : Int) from by rw [w64 (by omega) (by omega)]; omega]
        have hlen : (if nearQ (rd_T25 l (i : Int)) ∈ out then out else out ++ [nearQ (rd_T25 l (i : Int))]).length ≤ most := by
          split
          · omega
          · rw [List.length_append, List.length_singleton]; omega
        have := once_l0 l most hm hl m (i + 1) (by omega) _ hlen
        by_cases e : nearQ (rd_T25 l (i : Int)) ∈ out
        · rw [if_pos e] at this ⊢
          rw [if_neg (fun h => h.2 e)]; exact this
        · rw [if_neg e] at this ⊢
          rw [if_pos ⟨rfl, e⟩]; exact this
    · rw [if_neg d]
      refine Ev.step (f := fun k => vivariumlaw17_once.j1 k l (most : Int) out (i : Int) false) (fun k => ?_) (ev_end fun k => ?_)
      · rw [vivariumlaw17_once.l0, if_pos (by omega), if_neg (by omega)]
      · rw [vivariumlaw17_once.j1, if_neg (by simp)]

theorem ev_once (l : List S25) (most : Nat) (hm : most ≤ 400) (hl : l.length < 9223372036854775807) : Ev (fun k => vivariumlaw17_once.f k l (most : Int)) (onceL l most) := by
  have := once_l0 l most hm hl (l.take 400).length 0 (by omega) [] (by simp)
  rwa [List.drop_zero] at this

theorem onceF_all (P : S25 → Prop) (most : Nat) : ∀ (l out : List S25), out.Nodup → out.length ≤ most → (∀ p ∈ out, P p) → (∀ p ∈ l, P (nearQ p)) → (onceF most l out).Nodup ∧ (onceF most l out).length ≤ most ∧ ∀ p ∈ onceF most l out, P p
  | [], out, h1, h2, h3, h4 => ⟨h1, h2, h3⟩
  | p :: l, out, h1, h2, h3, h4 => by
    unfold onceF
    by_cases c : out.length < most
    · rw [if_pos c]
      refine onceF_all P most l _ ?_ ?_ ?_ (fun q hq => h4 q (by simp [hq]))
      · split
        · exact h1
        · rename_i hn
          exact List.nodup_append.2 ⟨h1, by simp, fun a ha b hb e => by simp at hb; subst hb; subst e; exact hn ha⟩
      · split
        · exact h2
        · simp; omega
      · split
        · exact h3
        · intro q hq
          rcases List.mem_append.1 hq with hq | hq
          · exact h3 q hq
          · rw [List.mem_singleton.1 hq]; exact h4 p (by simp)
    · rw [if_neg c]; exact ⟨h1, h2, h3⟩

def near999 (p : S25) : Prop := (-999 ≤ p.f0 ∧ p.f0 ≤ 999) ∧ -999 ≤ p.f1 ∧ p.f1 ≤ 999
theorem near_nearQ (p : S25) : near999 (nearQ p) := by
  have key : ∀ a : Int, -999 ≤ Int.tmod a 1000 ∧ Int.tmod a 1000 ≤ 999 := fun a => by
    have h1 := Int.tmod_lt_of_pos a (show (0 : Int) < 1000 by omega)
    have h2 := Int.tmod_lt_of_pos (-a) (show (0 : Int) < 1000 by omega)
    rw [Int.neg_tmod] at h2
    omega
  exact ⟨key _, key _⟩
theorem onceL_all (l : List S25) (most : Nat) : (onceL l most).Nodup ∧ (onceL l most).length ≤ most ∧ ∀ p ∈ onceL l most, near999 p :=
  onceF_all near999 most _ [] List.nodup_nil (by simp) (by simp) (fun p _ => near_nearQ p)
theorem near999_P {p : S25} (h : near999 p) : nearP p = true := by
  unfold near999 at h
  unfold nearP
  rw [Bool.and_eq_true, nearN_iff, nearN_iff]
  omega
theorem check_once (l : List S25) (most : Nat) (hm : most ≤ 64) : linear_Check.f (onceL l most) = some 0 := by
  obtain ⟨h1, h2, h3⟩ := onceL_all l most
  unfold linear_Check.f
  rw [if_neg (by omega), if_pos (List.all_eq_true.2 fun p hp => near999_P (h3 p hp)), if_pos h1]

/-! ### cells -/
def cellQ (W H : Int) (p : S25) : S25 := ⟨p.f0 % W - W / 2, p.f1 % H - H / 2⟩
def cellsL (W H : Int) (l : List S25) : List S25 := onceL ((l.take 400).map (cellQ W H)) 400

section
variable {W H : Int} (hw : 1 ≤ W ∧ W ≤ 12) (hh : 1 ≤ H ∧ H ≤ 12)
theorem cells_l0 (hw : 1 ≤ W ∧ W ≤ 12) (hh : 1 ≤ H ∧ H ≤ 12) (l : List S25) (hl : l.length < 9223372036854775807) (K T S : Int) (r : List S25) (hr : Ev (fun k => vivariumlaw17_once.f k ((l.take 400).map (cellQ W H)) 400) r) : ∀ m i : Nat, m + i = (l.take 400).length →
    Ev (fun k => vivariumlaw17_cells.l0 k l (((l.take 400).take i).map (cellQ W H)) (i : Int) K W H T S) r
  | 0, i, h => by
    rw [List.take_of_length_le (l := l.take 400) (by omega)]
    rw [List.length_take] at h
    refine Ev.step (f := fun k => vivariumlaw17_cells.j1 k l ((l.take 400).map (cellQ W H)) (i : Int) false K W H T S) (fun k => ?_) ?_
    · rw [vivariumlaw17_cells.l0]
      by_cases c : (i : Int) < (l.length : Int)
      · rw [if_pos c, decide_eq_false (by omega)]
      · rw [if_neg c]
    · refine Ev.step (fun k => ?_) hr
      rw [vivariumlaw17_cells.j1, if_neg (by simp)]
      cases vivariumlaw17_once.f k (List.map (cellQ W H) (List.take 400 l)) 400 <;> rfl
  | m + 1, i, h => by
    have hi : i < (l.take 400).length := by omega
    have hi2 : i < l.length ∧ i < 400 := by rw [List.length_take] at hi; omega
    have ih := cells_l0 hw hh l hl K T S r hr m (i + 1) (by omega)
    have hts : (l.take 400).take (i + 1) = (l.take 400).take i ++ [rd_T25 l (i : Int)] := by
      rw [take_succ_rd _ i hi]
      congr 2
      unfold rd_T25
      simp [hi2.1, hi2.2]
    rw [hts, List.map_append] at ih
    refine Ev.step (f := fun k => vivariumlaw17_cells.j1 k l (((l.take 400).take i).map (cellQ W H)) (i : Int) true K W H T S) (fun k => ?_) (Ev.step (fun k => ?_) ih)
    · rw [vivariumlaw17_cells.l0, if_pos (by omega), decide_eq_true (by omega)]
    · have e0 := Int.emod_nonneg (rd_T25 l (i : Int)).f0 (show W ≠ 0 by omega)
      have e1 := Int.emod_lt_of_pos (rd_T25 l (i : Int)).f0 (show 0 < W by omega)
      have e2 := Int.emod_nonneg (rd_T25 l (i : Int)).f1 (show H ≠ 0 by omega)
      have e3 := Int.emod_lt_of_pos (rd_T25 l (i : Int)).f1 (show 0 < H by omega)
      rw [vivariumlaw17_cells.j1, if_pos rfl, if_pos (by omega), if_pos (by omega), up_eq _ _ (by omega) (by omega), up_eq _ _ (by omega) (by omega), Option.bind_some, Option.bind_some, if_pos (by simp; omega),
        Int.tdiv_eq_ediv_of_nonneg (by omega), Int.tdiv_eq_ediv_of_nonneg (by omega), w64 (a := W / 2) (by omega) (by omega), w64 (a := H / 2) (by omega) (by omega), w64 (a := _ % W - W / 2) (by omega) (by omega), w64 (a := _ % H - H / 2) (by omega) (by omega), w64 (a := (i : Int) + 1) (by omega) (by omega)]
      rfl

theorem ev_cells (hw : 1 ≤ W ∧ W ≤ 12) (hh : 1 ≤ H ∧ H ≤ 12) (l : List S25) (hl : l.length < 9223372036854775807) (K T S : Int) : Ev (fun k => vivariumlaw17_cells.f k K W H T S l) (cellsL W H l) := by
  have := cells_l0 hw hh l hl K T S _ (ev_once ((l.take 400).map (cellQ W H)) 400 (by omega) (by simp; omega)) (l.take 400).length 0 (by omega)
  exact this

theorem cellQ_has (hw : 1 ≤ W ∧ W ≤ 12) (hh : 1 ≤ H ∧ H ≤ 12) (p : S25) : hasB W H (nearQ (cellQ W H p)) = true := by
  have e0 := Int.emod_nonneg p.f0 (show W ≠ 0 by omega)
  have e1 := Int.emod_lt_of_pos p.f0 (show 0 < W by omega)
  have e2 := Int.emod_nonneg p.f1 (show H ≠ 0 by omega)
  have e3 := Int.emod_lt_of_pos p.f1 (show 0 < H by omega)
  have key : ∀ a : Int, -999 ≤ a → a ≤ 999 → Int.tmod a 1000 = a := fun a h1 h2 => by
    rcases Int.le_total 0 a with h | h
    · rw [Int.tmod_eq_emod_of_nonneg h, Int.emod_eq_of_lt h (by omega)]
    · have := Int.neg_tmod (-a) 1000
      rw [Int.neg_neg] at this
      rw [this, Int.tmod_eq_emod_of_nonneg (by omega), Int.emod_eq_of_lt (by omega) (by omega)]; omega
  show hasB W H ⟨Int.tmod (p.f0 % W - W / 2) 1000, Int.tmod (p.f1 % H - H / 2) 1000⟩ = true
  rw [key (p.f0 % W - W / 2) (by omega) (by omega), key (p.f1 % H - H / 2) (by omega) (by omega)]
  unfold hasB
  rw [Bool.and_eq_true, decide_eq_true_eq, decide_eq_true_eq]
  dsimp only
  omega
theorem cellsL_all (hw : 1 ≤ W ∧ W ≤ 12) (hh : 1 ≤ H ∧ H ≤ 12) (l : List S25) : (cellsL W H l).Nodup ∧ (cellsL W H l).length ≤ 400 ∧ ∀ p ∈ cellsL W H l, hasB W H p = true :=
  onceF_all (fun p => hasB W H p = true) 400 _ [] List.nodup_nil (by simp) (by simp) (fun p hp => by
    obtain ⟨q, _, rfl⟩ := List.mem_map.1 (List.mem_of_mem_take hp)
    exact cellQ_has hw hh q)
end

/-! ### either, alike -/
theorem has_l0 (l : List S25) (p : S25) (hl : l.length < 9223372036854775807) : ∀ m i : Nat, m + i = l.length → Ev (fun k => vivariumlaw17_has.l0 k l (i : Int) p.f0 p.f1) (decide (p ∈ l.drop i))
  | 0, i, h => by
    rw [List.drop_eq_nil_of_le (by omega)]
    refine ev_end fun k => ?_
    rw [vivariumlaw17_has.l0, if_neg (by omega)]; simp
  | m + 1, i, h => by
    rw [rd_drop l i (by omega)]
    by_cases e : rd_T25 l (i : Int) = p
    · refine ev_end fun k => ?_
      rw [vivariumlaw17_has.l0, if_pos (by omega), if_pos (by omega), if_pos ((rd_eq_iff _ _).2 e), e]; simp
    · refine Ev.step (fun k => ?_) (f := fun k => vivariumlaw17_has.l0 k l ((i + 1 : Nat) : Int) p.f0 p.f1) ?_
      · rw [vivariumlaw17_has.l0, if_pos (by omega), if_pos (by omega), if_neg (fun h => e ((rd_eq_iff _ _).1 h)), w64 (by omega) (by omega)]; rfl
      · have := has_l0 l p hl m (i + 1) (by omega)
        rwa [show (decide (p ∈ rd_T25 l (i : Int) :: l.drop (i + 1))) = decide (p ∈ l.drop (i + 1)) from decide_eq_decide.2 (by rw [List.mem_cons]; exact ⟨fun h => h.elim (fun h => absurd h.symm e) id, .inr⟩)]
theorem ev_has (l : List S25) (p : S25) (hl : l.length < 9223372036854775807) : Ev (fun k => vivariumlaw17_has.f k l p.f0 p.f1) (decide (p ∈ l)) := by
  have := has_l0 l p hl l.length 0 (by omega)
  rwa [List.drop_zero] at this

def eitherL (a b : List S25) : List S25 := (a.filter fun p => decide (p ∉ b)) ++ b.filter fun p => decide (p ∉ a)
section
variable (a b : List S25)
theorem either_l1 (ha : a.length ≤ 1000000) (hb : b.length ≤ 1000000) : ∀ m i : Nat, m + i = b.length → ∀ out : List S25, out.length ≤ a.length + i → Ev (fun k => vivariumlaw17_either.l1 k a b out (i : Int)) (out ++ (b.drop i).filter fun p => decide (p ∉ a))
  | 0, i, h, out, ho => by
    rw [List.drop_eq_nil_of_le (by omega)]
    refine ev_end fun k => ?_
    rw [vivariumlaw17_either.l1, if_neg (by omega)]; simp
  | m + 1, i, h, out, ho => by
    rw [rd_drop b i (by omega)]
    have hh := ev_has a (rd_T25 b (i : Int)) (by omega)
    refine Ev.step (f := fun k => (vivariumlaw17_has.f k a (rd_T25 b (i : Int)).f0 (rd_T25 b (i : Int)).f1).bind fun t => if t = true then vivariumlaw17_either.l1 k a b out ((i + 1 : Nat) : Int) else vivariumlaw17_either.l1 k a b (out ++ [rd_T25 b (i : Int)]) ((i + 1 : Nat) : Int)) (fun k => ?_) (Ev.bind hh ?_)
    · rw [vivariumlaw17_either.l1, if_pos (by omega), if_pos (by omega), if_pos (by omega), w64 (by omega) (by omega)]; rfl
    · by_cases e : rd_T25 b (i : Int) ∈ a
      · simp only [decide_eq_true e, if_true]
        rw [List.filter_cons, if_neg (by simpa using e)]
        exact either_l1 ha hb m (i + 1) (by omega) out (by omega)
      · simp only [decide_eq_false e, Bool.false_eq_true, if_false]
        have := either_l1 ha hb m (i + 1) (by omega) (out ++ [rd_T25 b (i : Int)]) (by simp; omega)
        rw [List.filter_cons, if_pos (by simpa using e)]
        rwa [List.append_assoc, List.singleton_append] at this
theorem either_l0 (ha : a.length ≤ 1000000) (hb : b.length ≤ 1000000) : ∀ m i : Nat, m + i = a.length → ∀ out : List S25, out.length ≤ i → Ev (fun k => vivariumlaw17_either.l0 k a b out (i : Int)) (out ++ (a.drop i).filter (fun p => decide (p ∉ b)) ++ b.filter fun p => decide (p ∉ a))
  | 0, i, h, out, ho => by
    rw [List.drop_eq_nil_of_le (by omega)]
    have := either_l1 a b ha hb b.length 0 (by omega) out (by omega)
    rw [List.drop_zero] at this
    rw [List.filter_nil, List.append_nil]
    refine Ev.step (fun k => ?_) this
    rw [vivariumlaw17_either.l0, if_neg (by omega)]; rfl
  | m + 1, i, h, out, ho => by
    rw [rd_drop a i (by omega)]
    have hh := ev_has b (rd_T25 a (i : Int)) (by omega)
    refine Ev.step (f := fun k => (vivariumlaw17_has.f k b (rd_T25 a (i : Int)).f0 (rd_T25 a (i : Int)).f1).bind fun t => if t = true then vivariumlaw17_either.l0 k a b out ((i + 1 : Nat) : Int) else vivariumlaw17_either.l0 k a b (out ++ [rd_T25 a (i : Int)]) ((i + 1 : Nat) : Int)) (fun k => ?_) (Ev.bind hh ?_)
    · rw [vivariumlaw17_either.l0, if_pos (by omega), if_pos (by omega), if_pos (by omega), w64 (by omega) (by omega)]; rfl
    · by_cases e : rd_T25 a (i : Int) ∈ b
      · simp only [decide_eq_true e, if_true]
        rw [List.filter_cons, if_neg (by simpa using e)]
        exact either_l0 ha hb m (i + 1) (by omega) out (by omega)
      · simp only [decide_eq_false e, Bool.false_eq_true, if_false]
        have := either_l0 ha hb m (i + 1) (by omega) (out ++ [rd_T25 a (i : Int)]) (by simp; omega)
        rw [List.filter_cons, if_pos (by simpa using e)]
        rwa [List.append_assoc out, List.singleton_append] at this
theorem ev_either (ha : a.length ≤ 1000000) (hb : b.length ≤ 1000000) : Ev (fun k => vivariumlaw17_either.f k a b) (eitherL a b) := by
  have := either_l0 a b ha hb a.length 0 (by omega) [] (by simp)
  rwa [List.drop_zero, List.nil_append] at this
theorem alike_l0 (ha : a.length ≤ 1000000) (hb : b.length ≤ 1000000) (h : ∀ p ∈ a, p ∈ b) : ∀ m i : Nat, m + i = a.length → Ev (fun k => vivariumlaw17_alike.l0 k a b (i : Int)) true
  | 0, i, hi => by
    refine ev_end fun k => ?_
    rw [vivariumlaw17_alike.l0, if_neg (by omega)]
  | m + 1, i, hi => by
    have hm := h _ (rd_mem a i (by omega) i rfl)
    have hh := ev_has b (rd_T25 a (i : Int)) (by omega)
    rw [decide_eq_true hm] at hh
    refine Ev.step (f := fun k => (vivariumlaw17_has.f k b (rd_T25 a (i : Int)).f0 (rd_T25 a (i : Int)).f1).bind fun t => if t = true then vivariumlaw17_alike.l0 k a b ((i + 1 : Nat) : Int) else some false) (fun k => ?_) (Ev.bind hh ?_)
    · rw [vivariumlaw17_alike.l0, if_pos (by omega), if_pos (by omega), w64 (by omega) (by omega)]; rfl
    · simp only [if_true]
      exact alike_l0 ha hb h m (i + 1) (by omega)
theorem ev_alike (ha : a.length ≤ 1000000) (hb : b.length ≤ 1000000) (h : a.Perm b) : Ev (fun k => vivariumlaw17_alike.f k a b) true := by
  have := alike_l0 a b ha hb (fun p hp => h.mem_iff.1 hp) a.length 0 (by omega)
  refine Ev.congr (fun k => ?_) this
  unfold vivariumlaw17_alike.f
  rw [if_pos (by rw [h.length_eq])]; rfl
end

/-! ### what the torus is -/
theorem topoT_ok (a0 a1 a2 a3 : Int) : ∃ W H T S : Int, topoT a0 a1 a2 a3 = (2, W, H, T, S) ∧ (1 ≤ W ∧ W ≤ 12) ∧ (1 ≤ H ∧ H ≤ 12) ∧ linear_torus.f 8 2 W H T S = some 0 ∧ checkC 2 W H T S = 0 ∧ TV W H T S := by
  have q0 := Int.emod_nonneg a0 (show (12 : Int) ≠ 0 by omega); have q1 := Int.emod_lt_of_pos a0 (show (0 : Int) < 12 by omega)
  have q2 := Int.emod_nonneg a1 (show (12 : Int) ≠ 0 by omega); have q3 := Int.emod_lt_of_pos a1 (show (0 : Int) < 12 by omega)
  have q4 := Int.emod_nonneg a2 (show (3 : Int) ≠ 0 by omega); have q5 := Int.emod_lt_of_pos a2 (show (0 : Int) < 3 by omega)
  have key : ∀ W H T S : Int, (1 ≤ W ∧ W ≤ 12) → (1 ≤ H ∧ H ≤ 12) → (0 ≤ T ∧ T ≤ 2) → (T = 0 → S = 0) → (T ≠ 0 → 0 < S ∧ S < if T = 2 then H else W) → linear_torus.f 8 2 W H T S = some 0 ∧ checkC 2 W H T S = 0 ∧ TV W H T S := by
    intro W H T S hW hH hT h0 h1
    have hc : checkC 2 W H T S = 0 := by
      unfold checkC
      rw [if_neg (by omega), if_neg (by omega), if_neg (by omega), if_neg (by omega), if_neg (by omega)]
      by_cases t : T = 0
      · rw [if_pos t, if_pos (h0 t)]
      · have := h1 t
        rw [if_neg t, if_neg (by omega)]
    have hl : linear_torus.f 8 2 W H T S = some 0 := by
      unfold linear_torus.f topo_Check.f
      rw [hc, Option.bind_some, if_pos rfl, if_pos rfl, if_neg (by omega), if_neg (by omega)]
    exact ⟨hl, hc, (torus_ok hl).2.2⟩
  unfold topoT
  by_cases c : a2 % 3 ≠ 0 ∧ 0 < a3 % (if a2 % 3 = 2 then 1 + a1 % 12 else 1 + a0 % 12)
  · rw [if_pos c]
    have hn : 0 < (if a2 % 3 = 2 then 1 + a1 % 12 else 1 + a0 % 12) := by split <;> omega
    have := Int.emod_lt_of_pos a3 hn
    exact ⟨_, _, _, _, rfl, by omega, by omega, key _ _ _ _ (by omega) (by omega) (by omega) (fun h => absurd h c.1) (fun _ => ⟨c.2, this⟩)⟩
  · rw [if_neg c]
    exact ⟨_, _, _, _, rfl, by omega, by omega, key _ _ _ _ (by omega) (by omega) (by omega) (fun _ => rfl) (fun h => absurd rfl h)⟩

/-- A jump of what may be. -/
theorem jump_f {W H T S : Int} (ht : linear_torus.f 8 2 W H T S = some 0) (hb : W * H ≤ 1048576) {D L : List S25} (hD : linear_Check.f D = some 0) (hL : L.Nodup) (hH : ∀ p ∈ L, hasB W H p = true) {n : Int} (h0 : 0 ≤ n) (h1 : n ≤ 1125899906842624) :
    linear_Jump.f 2 W H T S D L n = some (jumpS W H T S D L n.toNat, 0) := by
  unfold linear_Jump.f
  rw [ht, Option.bind_some, if_pos rfl, hD, Option.bind_some, if_pos rfl, if_pos (List.all_eq_true.2 hH), if_pos hL]
  unfold jumpE
  rw [if_neg (by omega), if_neg (by omega), if_neg (by omega)]; rfl
theorem small_mul {W H : Int} (hw : 1 ≤ W ∧ W ≤ 12) (hh : 1 ≤ H ∧ H ≤ 12) : W * H ≤ 1048576 := by
  have : W * H ≤ 12 * 12 := Int.mul_le_mul hw.2 hh.2 (by omega) (by omega)
  omega
def allC (W H : Int) : List S25 := (List.range W.toNat).flatMap fun (i : Nat) => (List.range H.toNat).map fun (j : Nat) => (⟨(i : Int) - W / 2, (j : Int) - H / 2⟩ : S25)
theorem allC_length (W H : Int) : (allC W H).length = W.toNat * H.toNat := by
  unfold allC
  rw [List.length_flatMap]
  simp [List.map_const']
theorem mem_allC {W H : Int} {p : S25} (h : hasB W H p = true) : p ∈ allC W H := by
  unfold hasB at h
  rw [Bool.and_eq_true, decide_eq_true_eq, decide_eq_true_eq] at h
  refine List.mem_flatMap.2 ⟨(p.f0 + W / 2).toNat, List.mem_range.2 (by omega), List.mem_map.2 ⟨(p.f1 + H / 2).toNat, List.mem_range.2 (by omega), ?_⟩⟩
  rw [S25.ext_iff']
  dsimp only; omega
theorem home_length {W H : Int} {l : List S25} (h : l.Nodup) (hh : ∀ p ∈ l, hasB W H p = true) : l.length ≤ W.toNat * H.toNat := by
  rw [← allC_length W H]
  exact len_sub l _ h fun p hp => mem_allC (hh p hp)
theorem home_len {W H : Int} (hw : 1 ≤ W ∧ W ≤ 12) (hh : 1 ≤ H ∧ H ≤ 12) {l : List S25} (h : l.Nodup) (hl : ∀ p ∈ l, hasB W H p = true) : l.length ≤ 144 := by
  have h1 := home_length h hl
  have h2 : W.toNat * H.toNat ≤ 12 * 12 := Nat.mul_le_mul (by omega) (by omega)
  omega

end Go.Proofs.Ytomogkhdfaiekaa.PLin
