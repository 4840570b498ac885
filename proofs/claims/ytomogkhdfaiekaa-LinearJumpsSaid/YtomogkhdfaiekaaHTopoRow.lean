/-
  A topology as a row's argument.
-/
import Derived.Test.YtomogkhdfaiekaaPLinx0
import Derived.Lib.SmallJoins
import Derived.SizedLaws
namespace Go.Proofs.Ytomogkhdfaiekaa.PLin
open Go.RowKit Go.Joins Go.ChangeShapes Go.WideShapes Go.Deep
set_option linter.unusedVariables false

/-- A struct of a byte, two numbers, a byte and a number, handed in. -/
theorem open_topo {P : Program} {H : Type} {enc : TypeId × Value → H} {W : World} {base b0 : Nat} {spare : Nat → Bool} {held : Bool} {r : Reach} {t tb ti : TypeId} {v : Value} {d : DataW H} {ps : List MemPlace}
    {f0 f1 f2 f3 f4 : Field} (hs : P.underlying t = some (.struct #[f0, f1, f2, f3, f4])) (hone : oneCellFields P #[f0, f1, f2, f3, f4] = true) (hC : P.cellsOf t = 5)
    (ub : P.underlying tb = some (.int .u8)) (ui : P.underlying ti = some (.int .i64))
    (n0 : f0.type = tb) (n1 : f1.type = ti) (n2 : f2.type = ti) (n3 : f3.type = tb) (n4 : f4.type = ti) (hv : Value.okWide P W r b0 t v) (h : DataW.Trod enc P W base spare held t v d ps) :
    ∃ k w h t s : Int, v = .agg #[.int .u8 k, .int .i64 w, .int .i64 h, .int .u8 t, .int .i64 s] := by
  obtain ⟨cs, rfl, hsz⟩ := okWide_struct hs hv
  obtain ⟨l⟩ := cs
  match l, hsz.trans hC with
  | [c0, c1, c2, c3, c4], _ =>
    obtain ⟨fuel, hf⟩ := h
    obtain ⟨xs, n, _, hx, _, hlen, hg⟩ := DataW.trod_struct hs hf
    match xs, hlen with
    | [y0, y1, y2, y3, y4], _ =>
      obtain ⟨o0, q0⟩ := hone_of hone 0 f0 rfl
      obtain ⟨o1, q1⟩ := hone_of hone 1 f1 rfl
      obtain ⟨o2, q2⟩ := hone_of hone 2 f2 rfl
      obtain ⟨o3, q3⟩ := hone_of hone 3 f3 rfl
      obtain ⟨o4, q4⟩ := hone_of hone 4 f4 rfl
      have g0 := hg 0 f0 rfl; have g1 := hg 1 f1 rfl; have g2 := hg 2 f2 rfl; have g3 := hg 3 f3 rfl; have g4 := hg 4 f4 rfl
      simp [Value.cells, o0, q0] at g0
      rw [n0] at g0
      simp [Value.cells, o1, q1] at g1
      rw [n1] at g1
      simp [Value.cells, o2, q2] at g2
      rw [n2] at g2
      simp [Value.cells, o3, q3] at g3
      rw [n3] at g3
      simp [Value.cells, o4, q4] at g4
      rw [n4] at g4
      obtain ⟨t0, e0, _, _⟩ := DataW.trod_int ub g0
      obtain ⟨t1, e1, _, _⟩ := DataW.trod_int ui g1
      obtain ⟨t2, e2, _, _⟩ := DataW.trod_int ui g2
      obtain ⟨t3, e3, _, _⟩ := DataW.trod_int ub g3
      obtain ⟨t4, e4, _, _⟩ := DataW.trod_int ui g4
      simp at e0 e1 e2 e3 e4
      subst e0 e1 e2 e3 e4
      exact ⟨t0, t1, t2, t3, t4, rfl⟩
set_option maxRecDepth 100000 in
theorem open_T {H : Type} {enc : TypeId × Value → H} {W : World} {base b0 : Nat} {spare : Nat → Bool} {held : Bool} {r : Reach} {v : Value} {d : DataW H} {ps : List MemPlace}
    (hv : Value.okWide Try.prog W r b0 42 v) (h : DataW.Trod enc Try.prog W base spare held 42 v d ps) :
    ∃ k w h t s : Int, v = .agg #[.int .u8 k, .int .i64 w, .int .i64 h, .int .u8 t, .int .i64 s] :=
  open_topo Try.underlying42 (by kernel_rfl) (by kernel_rfl) Try.underlying5 Try.underlying3 (by kernel_rfl) (by kernel_rfl) (by kernel_rfl) (by kernel_rfl) (by kernel_rfl) hv h
end Go.Proofs.Ytomogkhdfaiekaa.PLin
