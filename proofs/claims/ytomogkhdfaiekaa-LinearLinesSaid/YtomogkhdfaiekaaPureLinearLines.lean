/-
  LinearLines: the plain law.
-/
import Derived.Test.YtomogkhdfaiekaaPLinx7
import Derived.Test.YtomogkhdfaiekaaHRefLine
import Derived.Test.YtomogkhdfaiekaaHAlive
namespace Go.Proofs.Ytomogkhdfaiekaa.Pure
open Go.Proofs.Ytomogkhdfaiekaa.HW Go.Proofs.Ytomogkhdfaiekaa.HSet Go.RowKit Go.Proofs.Ytomogkhdfaiekaa.PLin Go.Proofs.YtomogkhdfaiekaaW.PrintWords Go.Proofs.YtomogkhdfaiekaaW.PrintLast
set_option linter.unusedVariables false
set_option linter.unusedSimpArgs false

theorem lines_l0 (l : List Int) (hl : l.length ≤ 300) (b : Bool) (e : Int) : ∀ m i : Nat, m + i = l.length → Ev (fun k => vivariumlaw17_LinearLines.l0 k l true (l ++ [1099511627776]) b e b e (i : Int)) true
  | 0, i, h => by
    refine evT_now fun k => ?_
    have hr : rd (l ++ [1099511627776]) (l.length : Int) = 1099511627776 := by unfold rd; simp
    rw [vivariumlaw17_LinearLines.l0, if_neg (by omega), if_pos rfl, if_pos (by simp), if_pos rfl, if_pos (by omega), if_pos (by simp; omega), hr]; rfl
  | m + 1, i, h => by
    refine evT (fun k => ?_) (lines_l0 l hl b e m (i + 1) (by omega))
    have hr : rd (l ++ [1099511627776]) (i : Int) = rd l (i : Int) := by unfold rd; simp [List.getElem?_append_left (show i < l.length by omega)]
    rw [vivariumlaw17_LinearLines.l0, if_pos (by omega), if_pos (by omega), if_pos (by simp; omega), if_pos hr, w64 (by omega) (by omega)]; rfl

theorem LinearLines : vivariumlaw17_LinearLines.Pure := by
  intro l a1 a2 h1 h2 h3 h4 h5
  by_cases c : l.length > 300
  · refine ⟨5, ?_⟩
    unfold vivariumlaw17_LinearLines.f
    rw [alive_true (by omega), Option.bind_some, if_pos (by omega)]
  · obtain ⟨K1, hK1⟩ := ev_Line l a1 a2
    obtain ⟨K2, hK2⟩ := lines_l0 l (by omega) (lineA l a1 a2).1 (lineA l a1 a2).2 l.length 0 (by omega)
    refine ⟨K1 + K2 + 5, ?_⟩
    have hk1 : vivariumref17_Line.f (K1 + K2 + 5) l a1 a2 = some (lineA l a1 a2) := hK1 _ (by omega)
    have hk2 : vivariumlaw17_LinearLines.l0 (K1 + K2 + 5) l true (l ++ [1099511627776]) (lineA l a1 a2).1 (lineA l a1 a2).2 (lineA l a1 a2).1 (lineA l a1 a2).2 0 = some true := hK2 _ (by omega)
    have ht : (l ++ [1099511627776]).take ((l.length : Int) : Int).toNat = l := by rw [Int.toNat_natCast]; exact List.take_left' rfl
    unfold vivariumlaw17_LinearLines.f
    rw [alive_true (by omega), Option.bind_some, if_neg (by omega), if_pos (by simp; omega), List.nil_append, Option.bind_some, if_pos (by omega), Option.bind_some, if_pos (by omega), if_pos (by simp; omega), ht]
    unfold linear_Line.f
    rw [Option.bind_some, hk1, Option.bind_some]
    exact hk2
end Go.Proofs.Ytomogkhdfaiekaa.Pure
