/-
  LinearNames: the plain law.
-/
import Derived.Test.YtomogkhdfaiekaaPLinx3
import Derived.Test.YtomogkhdfaiekaaHAlive
namespace Go.Proofs.Ytomogkhdfaiekaa.Pure
open Go.RowKit Go.Proofs.Ytomogkhdfaiekaa.PLin Go.Proofs.YtomogkhdfaiekaaW.PrintWords Go.Proofs.YtomogkhdfaiekaaW.PrintLast

theorem LinearNames : vivariumlaw17_LinearNames.Pure := by
  refine ⟨70, ?_⟩
  unfold vivariumlaw17_LinearNames.f
  rw [alive_true (by omega)]
  show vivariumlaw17_LinearNames.l0 70 true [] 0 = some true
  decide +kernel

end Go.Proofs.Ytomogkhdfaiekaa.Pure
