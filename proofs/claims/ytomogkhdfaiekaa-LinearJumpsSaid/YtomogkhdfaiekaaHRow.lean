/-
  Rows of places, as a row's arguments: what a slice of places that is handed in reads as.
-/
import Derived.Test.YtomogkhdfaiekaaPLinx0
import Derived.Test.YtomogkhdfaiekaaHKeys
import Derived.Deep.SlicePairs
import Derived.SizedLaws
import Derived.ChangeSlices
namespace Go.Proofs.Ytomogkhdfaiekaa.PLin
open Go.Proofs.Ytomogkhdfaiekaa.HW Go.Proofs.Ytomogkhdfaiekaa.HSet Go.RowKit Go.Proofs.YtomogkhdfaiekaaW.PrintWords Go.Proofs.YtomogkhdfaiekaaW.PrintLast Go.ChangeShapes Go.WideShapes Go.Deep
set_option linter.unusedVariables false

/-- A slice of places, handed in. -/
theorem open_points {H : Type} {enc : TypeId × Value → H} {W : World} {base : Nat} {spare : Nat → Bool} {held : Bool} {a : Option Addr} {len cap : Nat} {d : DataW H} {ps : List MemPlace} {ts : List TypeId} {ds : List (DataW H)} {j : Nat}
    (hsz : (DataW.weightsEach Try.prog ts ds).all (· ≤ reachBytes) = true) (ht : ts[j]? = some 23) (hd : ds[j]? = some d)
    (h : DataW.Trod enc Try.prog W base spare held 23 (.slice a len cap) d ps) :
    ∃ l : List S25, l.length = len ∧ len ≤ cap ∧ Kd.C k25 W a l.length l ∧ (∀ p ∈ l, okP p) ∧ l.length * 16 ≤ 140737488351232 := by
  obtain ⟨fuel, hf⟩ := h
  rcases open_slice_pairs Try.underlying23 Try.underlying25 (by kernel_rfl) rfl rfl (by kernel_rfl) (by kernel_rfl) hf with ⟨hcs, hx⟩ | ⟨ad, l, c, m, n, V0, V1, D0, D1, P0, P1, hcs, _, hl, hm, hmm, hx, hi⟩
  · simp [Value.cells] at hcs
    obtain ⟨rfl, rfl, rfl⟩ := hcs
    exact ⟨[], rfl, Nat.le_refl _, ⟨rfl, by simp, by simp⟩, by simp, by simp⟩
  · simp [Value.cells] at hcs
    obtain ⟨rfl, rfl, rfl⟩ := hcs
    obtain ⟨hx, _⟩ := Prod.mk.inj hx
    have hlm : len ≤ m := by rw [hmm]; split <;> omega
    have each : ∀ i, i < len → ∃ p : S25, W.cell? (ad.add (i * 2)) = some (.int .i64 p.f0) ∧ W.cell? (ad.add (i * 2 + 1)) = some (.int .i64 p.f1) ∧ okP p := by
      intro i hil
      obtain ⟨h1, h2, h3, h4⟩ := hi i (by omega)
      obtain ⟨x, hx1, _, hw1⟩ := DataW.trod_int Try.underlying3 h3
      obtain ⟨y, hy1, _, hw2⟩ := DataW.trod_int Try.underlying3 h4
      injection hx1 with hx1
      injection hy1 with hy1
      rw [hx1] at h1; rw [hy1] at h2
      exact ⟨⟨x, y⟩, h1, h2, hw1, hw2⟩
    obtain ⟨q, hq⟩ := choose_lt each
    have hz : len * 16 ≤ 140737488351232 := by
      subst hx
      have z := sized_slice hsz ht hd Try.underlying23
      have hb : Try.prog.bytesOf 25 = 16 := by kernel_rfl
      rw [hb] at z
      simp only [List.length_map, List.length_range] at z
      have hrb : reachBytes = 140737488351232 := rfl
      omega
    refine ⟨(List.range len).map q, by simp, hl, ⟨by simp, by simp; omega, fun _ => ⟨ad, rfl, fun j p hp => ?_⟩⟩, fun p hp => ?_, by simpa using hz⟩
    · rw [List.getElem?_map] at hp
      obtain ⟨i, hi1, rfl⟩ := Option.map_eq_some_iff.1 hp
      have hj : j < len := by have := (List.getElem?_eq_some_iff.1 hi1).1; simpa using this
      have : i = j := by rw [List.getElem?_range hj] at hi1; exact (Option.some.inj hi1).symm
      subst this
      refine ⟨[.int .i64 (q i).f0, .int .i64 (q i).f1], rfl, k25_mk W (q i), fun k u hu => ?_⟩
      match k, hu with
      | 0, hu => cases hu; exact (hq i hj).1
      | 1, hu => cases hu; exact (hq i hj).2.1
    · obtain ⟨i, hi1, rfl⟩ := List.mem_map.1 hp
      exact (hq i (List.mem_range.1 hi1)).2.2
end Go.Proofs.Ytomogkhdfaiekaa.PLin
