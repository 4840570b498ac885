/-
  LinearMakes: the plain law.
-/
import Derived.Test.YtomogkhdfaiekaaPLinx9
import Derived.Test.YtomogkhdfaiekaaHAlive
import Derived.Test.YtomogkhdfaiekaaHLineMath
namespace Go.Proofs.Ytomogkhdfaiekaa.Pure
open Go.Proofs.Ytomogkhdfaiekaa.HW Go.Proofs.Ytomogkhdfaiekaa.HSet Go.RowKit Go.Proofs.Ytomogkhdfaiekaa.PLin Go.Proofs.YtomogkhdfaiekaaW.PrintWords Go.Proofs.YtomogkhdfaiekaaW.PrintLast
set_option linter.unusedVariables false
set_option linter.unusedSimpArgs false

theorem rdB_rep (y : Nat) : rdOf false (List.replicate 601 false) (y : Int) = false := by
  unfold rdOf
  rw [List.getD_eq_getElem?_getD, List.getElem?_replicate]
  split <;> rfl
theorem len_rep : (List.replicate 601 false).length = 601 := List.length_replicate

theorem ev_succ {α : Type} {g f : Nat → Option α} {r : α} (h : ∀ k, g (k + 1) = f k) (hf : Ev f r) : Ev g r := by
  obtain ⟨K, hK⟩ := hf
  refine ⟨K + 1, fun k hk => ?_⟩
  obtain ⟨j, rfl⟩ : ∃ j, k = j + 1 := ⟨k - 1, by omega⟩
  rw [h]; exact hK j (by omega)

theorem rdB_same {l : List Bool} {x : Nat} (h : x < l.length) (b : Bool) : rdOf false (l.set x b) (x : Int) = b := by
  unfold rdOf
  simp [h]
theorem rdB_ne {l : List Bool} {x y : Nat} (h : x ≠ y) (b : Bool) : rdOf false (l.set x b) (y : Int) = rdOf false l (y : Int) := by
  unfold rdOf
  simp [List.getElem?_set_ne h]
theorem set_rdB {l : List Bool} {x : Nat} (h : x < l.length) : l.set x (rdOf false l (x : Int)) = l := by
  unfold rdOf
  simp [h]
theorem rd_dropI (l : List Int) (k : Nat) (h : k < l.length) : l.drop k = rd l k :: l.drop (k + 1) := by
  rw [List.drop_eq_getElem_cons h]
  unfold rd
  simp [h]

section
variable (far p : Int) (d : List Int) (hd : ∀ a ∈ d, -8 ≤ a ∧ a ≤ 8) (hdl : d.length ≤ 8)

theorem makes_l4 (row : List Bool) (hr : row.length = 601) (i : Int) (x : Nat) (hx : 100 ≤ x ∧ x ≤ 500) (hd : ∀ a ∈ d, -8 ≤ a ∧ a ≤ 8) (hdl : d.length ≤ 8) (r : Bool) :
    ∀ (m j : Nat) (nx : List Bool), m + j = d.length → nx.length = 601 →
      Ev (fun k => vivariumlaw17_LinearMakes.l3 k true d far p row i (nx.set x (xor (rdOf false nx (x : Int)) (par (d.drop j) fun a => rdOf false row ((x : Int) + a)))) ((x : Int) + 1)) r →
      Ev (fun k => vivariumlaw17_LinearMakes.l4 k true d far p row i nx (x : Int) (j : Int)) r
  | 0, j, nx, hm, hn, h => by
    rw [List.drop_eq_nil_of_le (by omega), par_nil, Bool.xor_false, set_rdB (by omega)] at h
    refine ev_succ (fun k => ?_) h
    rw [vivariumlaw17_LinearMakes.l4, if_neg (by omega), w64 (by omega) (by omega)]
  | m + 1, j, nx, hm, hn, h => by
    have hdj := hd _ (rdI_mem d j (by omega))
    rw [rd_dropI d j (by omega), par_cons] at h
    have ih := makes_l4 row hr i x hx hd hdl r m (j + 1)
    generalize ha : rd d (j : Int) = a at *
    by_cases c : rdOf false row ((x : Int) + a) = true
    · rw [c] at h
      refine ev_succ (f := fun k => vivariumlaw17_LinearMakes.l4 k true d far p row i (nx.set x (!(rdOf false nx (x : Int)))) (x : Int) ((j + 1 : Nat) : Int)) (fun k => ?_) (ih _ (by omega) (by simpa using hn) ?_)
      · rw [vivariumlaw17_LinearMakes.l4, if_pos (by omega), if_pos (by omega), ha, w64 (a := (x : Int) + a) (by omega) (by omega), if_pos (by omega), if_pos (by omega), if_pos c, if_pos (by omega), if_pos (by omega), w64 (by omega) (by omega)]; rfl
      · rw [rdB_same (by omega), List.set_set]
        have e : ∀ b c : Bool, xor (!b) c = xor b (xor true c) := by decide
        rw [e]; exact h
    · rw [Bool.eq_false_iff.2 c, Bool.false_xor] at h
      refine ev_succ (f := fun k => vivariumlaw17_LinearMakes.l4 k true d far p row i nx (x : Int) ((j + 1 : Nat) : Int)) (fun k => ?_) (ih _ (by omega) hn h)
      rw [vivariumlaw17_LinearMakes.l4, if_pos (by omega), if_pos (by omega), ha, w64 (a := (x : Int) + a) (by omega) (by omega), if_pos (by omega), if_pos (by omega), if_neg c, w64 (by omega) (by omega)]; rfl

/-- A row under way: the places ahead of x are told. -/
def NX (row : List Bool) (x : Nat) (nx : List Bool) : Prop :=
  nx.length = 601 ∧ ∀ y : Nat, y < 601 → rdOf false nx (y : Int) = (decide (100 ≤ y ∧ y < x) && par d fun a => rdOf false row ((y : Int) + a))

theorem makes_l3 (row : List Bool) (hr : row.length = 601) (i : Int) (hi : 0 ≤ i ∧ i ≤ 20) (hd : ∀ a ∈ d, -8 ≤ a ∧ a ≤ 8) (hdl : d.length ≤ 8) (r : Bool)
    (hK : ∀ nx, NX d row 501 nx → Ev (fun k => vivariumlaw17_LinearMakes.l2 k true d far p nx (i + 1)) r) :
    ∀ (m x : Nat) (nx : List Bool), m + x = 501 → 100 ≤ x → NX d row x nx → Ev (fun k => vivariumlaw17_LinearMakes.l3 k true d far p row i nx (x : Int)) r
  | 0, x, nx, hm, hx, h => by
    obtain rfl : x = 501 := by omega
    refine ev_succ (fun k => ?_) (hK nx h)
    rw [vivariumlaw17_LinearMakes.l3, if_neg (by omega), w64 (by omega) (by omega)]
  | m + 1, x, nx, hm, hx, h => by
    have ih := makes_l3 row hr i hi hd hdl r hK m (x + 1) (nx.set x (xor (rdOf false nx (x : Int)) (par (d.drop 0) fun a => rdOf false row ((x : Int) + a)))) (by omega) (by omega) ⟨by simpa using h.1, fun y hy => by
      rw [List.drop_zero]
      by_cases e : y = x
      · subst e
        rw [rdB_same (by have := h.1; omega), h.2 y hy, decide_eq_false (by omega), Bool.false_and, Bool.false_xor, decide_eq_true (by omega), Bool.true_and]
      · rw [rdB_ne (fun e' => e e'.symm), h.2 y hy]
        congr 1
        rw [Bool.eq_iff_iff, decide_eq_true_eq, decide_eq_true_eq]; omega⟩
    refine ev_succ (f := fun k => vivariumlaw17_LinearMakes.l4 k true d far p row i nx (x : Int) ((0 : Nat) : Int)) (fun k => ?_) (makes_l4 far p d row hr i x (by omega) hd hdl r d.length 0 nx (by omega) h.1 ih)
    rw [vivariumlaw17_LinearMakes.l3, if_pos (by omega)]; rfl

/-- A row is what lives behind i generations. -/
def RW (i : Nat) (row : List Bool) : Prop := row.length = 601 ∧ ∀ y : Nat, y < 601 → rdOf false row (y : Int) = itF d i unitF ((y : Int) - 300)

theorem rw_next (hd : ∀ a ∈ d, -8 ≤ a ∧ a ≤ 8) {i : Nat} (hi : i < 13) {row nx : List Bool} (h : RW d i row) (hn : NX d row 501 nx) : RW d (i + 1) nx := by
  refine ⟨hn.1, fun y hy => ?_⟩
  rw [hn.2 y hy]
  by_cases c : 100 ≤ y ∧ y < 501
  · rw [decide_eq_true c, Bool.true_and]
    refine par_congr fun a ha => ?_
    have := hd a ha
    obtain ⟨z, hz⟩ : ∃ z : Nat, (y : Int) + a = z := ⟨((y : Int) + a).toNat, by omega⟩
    rw [hz, h.2 z (by omega)]
    congr 1; omega
  · rw [decide_eq_false c, Bool.false_and, itF_far hd]
    omega

theorem makes_l2 (hd : ∀ a ∈ d, -8 ≤ a ∧ a ≤ 8) (hdl : d.length ≤ 8) (hnd : d.Nodup) (n : Nat) (hn : n ≤ 12) (hp : -130 < p ∧ p < 130) :
    ∀ (m i : Nat) (row : List Bool), m + i = n → RW d i row → Ev (fun k => vivariumlaw17_LinearMakes.l2 k true d n p row (i : Int)) true
  | 0, i, row, hm, h => by
    obtain rfl : i = n := by omega
    refine ⟨1, fun k hk => ?_⟩
    obtain ⟨j, rfl⟩ : ∃ j, k = j + 1 := ⟨k - 1, by omega⟩
    have hall : d.all inLine = true := List.all_eq_true.2 fun a ha => by have := hd a ha; unfold inLine; rw [Bool.and_eq_true, decide_eq_true_eq, decide_eq_true_eq]; omega
    have he : lineE d = 0 := by unfold lineE; rw [if_neg (by omega), if_pos hall, if_pos hnd]
    have hline : linear_Line.f d (i : Int) p = some (itF d i unitF p, 0) := by
      unfold linear_Line.f lineA
      rw [if_pos he, if_neg (by omega), if_neg (by omega)]
      by_cases c : p > 64 * (i : Int) ∨ p < -64 * (i : Int)
      · rw [if_pos c, itF_far hd]
        omega
      · rw [if_neg c, Int.toNat_natCast, line_lives hall]
    show vivariumlaw17_LinearMakes.l2 (j + 1) true d (i : Int) p row (i : Int) = some true
    unfold vivariumlaw17_LinearMakes.l2
    rw [if_neg (by omega), hline]
    simp only [Option.bind_some, if_true]
    rw [w64 (by omega) (by omega), if_pos (by omega), if_pos (by have := h.1; omega)]
    obtain ⟨z, hz⟩ : ∃ z : Nat, 300 + p = z := ⟨(300 + p).toNat, by omega⟩
    rw [hz, h.2 z (by omega), show (z : Int) - 300 = p by omega]
    simp
  | m + 1, i, row, hm, h => by
    have hl3 := makes_l3 n p d row h.1 (i : Int) (by omega) hd hdl true (fun nx hnx => by
      have := makes_l2 hd hdl hnd n hn hp m (i + 1) nx (by omega) (rw_next d hd (by omega) h hnx)
      rwa [show ((i + 1 : Nat) : Int) = (i : Int) + 1 by omega] at this) 401 100 (List.replicate 601 false) (by omega) (by omega) ⟨len_rep, fun y hy => by
        rw [decide_eq_false (by omega), Bool.false_and]; exact rdB_rep y⟩
    refine ev_succ (fun k => ?_) hl3
    rw [vivariumlaw17_LinearMakes.l2, if_pos (by omega), if_pos (by omega)]; rfl

end
theorem tmod_small (a : Int) {n : Int} (hn : 0 < n) : -n < a.tmod n ∧ a.tmod n < n := by
  have h1 := Int.tmod_lt_of_pos a hn
  have h2 := Int.tmod_lt_of_pos (-a) hn
  rw [Int.neg_tmod] at h2
  omega
theorem up_eq (a : Int) {n : Int} (hn : 0 < n) (hn2 : n ≤ 4611686018427387904) : ∃ u : Nat, (u : Int) < n ∧ vivariumlaw17_up.f a n = some (u : Int) := by
  obtain ⟨h1, h2⟩ := tmod_small a hn
  unfold vivariumlaw17_up.f
  rw [if_neg (by omega), w64 (by omega) (by omega), Int.tmod_eq_emod_of_nonneg (by omega)]
  have h3 := Int.emod_nonneg (a.tmod n + n) (show n ≠ 0 by omega)
  have h4 := Int.emod_lt_of_pos (a.tmod n + n) hn
  exact ⟨((a.tmod n + n) % n).toNat, by omega, by rw [Int.toNat_of_nonneg h3]⟩

section
variable (l0 : List Int) (a1 a2 : Int)
/-- Offsets that may be. -/
structure DOK (d : List Int) : Prop where
  len : d.length ≤ 8
  nodup : d.Nodup
  near : ∀ a ∈ d, -8 ≤ a ∧ a ≤ 8

theorem makes_j {d : List Int} (h : DOK d) (i : Int) : Ev (fun k => vivariumlaw17_LinearMakes.j1 k l0 a1 a2 true d i false) true := by
  obtain ⟨u, hu, hup⟩ := up_eq a1 (n := 13) (by omega) (by omega)
  have hp := tmod_small a2 (n := 130) (by omega)
  have hl2 := makes_l2 (Int.tmod a2 130) d h.near h.len h.nodup u (by omega) (by omega) u 0 ((List.replicate 601 false).set 300 true) (by omega) ⟨by rw [List.length_set]; exact len_rep, fun y hy => by
    show _ = unitF _
    unfold unitF
    by_cases e : y = 300
    · subst e; rw [rdB_same (by rw [len_rep]; omega)]; rfl
    · rw [rdB_ne (fun e' => e e'.symm), decide_eq_false (by omega)]
      exact rdB_rep y⟩
  refine ev_succ (fun k => ?_) hl2
  rw [vivariumlaw17_LinearMakes.j1, if_neg (by decide), hup]
  rw [Option.bind_some, if_pos (by omega), Option.bind_some, if_pos (by rw [len_rep]; omega)]
  rfl

theorem makes_l1 (d : List Int) (hdl : d.length < 8) (i : Int) (hi : 0 ≤ i ∧ i < 9223372036854775807) (key : Int) (r : Bool) :
    ∀ (m j : Nat) (fresh : Bool), m + j = d.length → Ev (fun k => vivariumlaw17_LinearMakes.l0 k l0 a1 a2 true (if (fresh && decide (key ∉ d.drop j)) = true then d ++ [key] else d) (i + 1)) r →
      Ev (fun k => vivariumlaw17_LinearMakes.l1 k l0 a1 a2 true d i key fresh (j : Int)) r
  | 0, j, fresh, hm, h => by
    rw [List.drop_eq_nil_of_le (by omega)] at h
    refine ev_succ (fun k => ?_) h
    rw [vivariumlaw17_LinearMakes.l1, if_neg (by omega)]
    cases fresh with
    | true => rw [if_pos rfl, if_pos (by omega), w64 (by omega) (by omega), if_pos (by simp)]
    | false => rw [if_neg (by simp), w64 (by omega) (by omega), if_neg (by simp)]
  | m + 1, j, fresh, hm, h => by
    rw [rd_dropI d j (by omega)] at h
    by_cases c : rd d (j : Int) = key
    · refine ev_succ (f := fun k => vivariumlaw17_LinearMakes.l1 k l0 a1 a2 true d i key false ((j + 1 : Nat) : Int)) (fun k => ?_) (makes_l1 d hdl i hi key r m (j + 1) false (by omega) ?_)
      · rw [vivariumlaw17_LinearMakes.l1, if_pos (by omega), if_pos (by omega), if_pos c, w64 (by omega) (by omega)]; rfl
      · rw [if_neg (by simp)]
        rwa [if_neg (by simp [c])] at h
    · refine ev_succ (f := fun k => vivariumlaw17_LinearMakes.l1 k l0 a1 a2 true d i key fresh ((j + 1 : Nat) : Int)) (fun k => ?_) (makes_l1 d hdl i hi key r m (j + 1) fresh (by omega) ?_)
      · rw [vivariumlaw17_LinearMakes.l1, if_pos (by omega), if_pos (by omega), if_neg c, w64 (by omega) (by omega)]; rfl
      · have e : decide (key ∉ rd d (j : Int) :: d.drop (j + 1)) = decide (key ∉ d.drop (j + 1)) := by
          rw [Bool.eq_iff_iff, decide_eq_true_eq, decide_eq_true_eq, List.mem_cons]
          exact ⟨fun h hm => h (.inr hm), fun h hm => hm.elim (fun e => c e.symm) h⟩
        rwa [e] at h

theorem makes_l0 (hl : l0.length < 9223372036854775807) : ∀ (m i : Nat) (d : List Int), m + i = l0.length → DOK d → Ev (fun k => vivariumlaw17_LinearMakes.l0 k l0 a1 a2 true d (i : Int)) true
  | 0, i, d, hm, h => by
    refine ev_succ (fun k => ?_) (makes_j l0 a1 a2 h (i : Int))
    rw [vivariumlaw17_LinearMakes.l0, if_neg (by omega)]
  | m + 1, i, d, hm, h => by
    by_cases c : d.length < 8
    · refine ev_succ (f := fun k => vivariumlaw17_LinearMakes.j1 k l0 a1 a2 true d (i : Int) true) (fun k => ?_) ?_
      · rw [vivariumlaw17_LinearMakes.l0, if_pos (by omega), decide_eq_true (by omega)]
      · have hk := tmod_small (rd l0 (i : Int)) (n := 9) (by omega)
        refine ev_succ (f := fun k => vivariumlaw17_LinearMakes.l1 k l0 a1 a2 true d (i : Int) (Int.tmod (rd l0 (i : Int)) 9) true ((0 : Nat) : Int)) (fun k => ?_) (makes_l1 l0 a1 a2 d c (i : Int) (by omega) _ true d.length 0 true (by omega) ?_)
        · rw [vivariumlaw17_LinearMakes.j1, if_pos rfl, if_pos (by omega), if_pos (by omega)]; rfl
        · rw [List.drop_zero, Bool.true_and]
          have := makes_l0 hl m (i + 1) (if decide (Int.tmod (rd l0 (i : Int)) 9 ∉ d) = true then d ++ [Int.tmod (rd l0 (i : Int)) 9] else d) (by omega) (by
            split
            next hf =>
              have hf := of_decide_eq_true hf
              exact ⟨by simp; omega, List.nodup_append.2 ⟨h.nodup, by simp, fun x hx y hy e => by simp at hy; subst hy; subst e; exact hf hx⟩, fun a ha => by
                rcases List.mem_append.1 ha with ha | ha
                · exact h.near a ha
                · rw [List.mem_singleton] at ha; subst ha; omega⟩
            next => exact h)
          rwa [show ((i + 1 : Nat) : Int) = (i : Int) + 1 by omega] at this
    · refine ev_succ (f := fun k => vivariumlaw17_LinearMakes.j1 k l0 a1 a2 true d (i : Int) false) (fun k => ?_) (makes_j l0 a1 a2 h (i : Int))
      rw [vivariumlaw17_LinearMakes.l0, if_pos (by omega), decide_eq_false (by omega)]
end

theorem LinearMakes : vivariumlaw17_LinearMakes.Pure := by
  intro l0 a1 a2 h1 h2 h3 h4 h5
  obtain ⟨K, hK⟩ := makes_l0 l0 a1 a2 (by omega) l0.length 0 [] (by omega) ⟨by simp, by simp, by simp⟩
  refine ⟨K + 5, ?_⟩
  unfold vivariumlaw17_LinearMakes.f
  rw [alive_true (by omega)]
  exact hK (K + 5) (by omega)
end Go.Proofs.Ytomogkhdfaiekaa.Pure
