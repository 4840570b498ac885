/-
  No cell of these rows narrows 'for every input' (looked for: loops, veiled, ifaces, maps, wideKeys, modest, calm, conditions, laid).
  DERIVED. THE GIVEN ROWS OF THIS SEAT. 11 by the template 'for every input the law returns true; each argument reads behind the call as it read before'; 0 by the template 'total and deterministic' (their statements: YtomogkhdfaiekaaTotals.lean).
  GIVEN WITH THE SEED: the statements are not yours to turn. If you find one false, say at which input.
  Laid BY PROGRAM, IN A SANDBOX (cutbox-rows.mjs): the forced cells as the released guide's own fill.sh prints them over the translation f6cba480deb7cf8b… (all of the seat's roots in one cut). By AI agents, Wed Nov 11 2026. No macro, syntax, notation, axiom, sorry.
-/
import Derived.Test.YtomogkhdfaiekaaChecked
import GoSem.Claim
import GoSem.ClaimJoined
import GoSem.ClaimMapViews
import Derived.JoinedTies
import Derived.KernelRfl
namespace Go.Proofs.Ytomogkhdfaiekaa
/- THE CELL 'sum', in the pinned program and in every row, IS THE sha256 OF THE DUMP (.gsa) THAT YtomogkhdfaiekaaProg.lean LOADS. Nothing in Lean hashes anything: it is a label: what it is worth is what the hold of that sum in a sandbox is worth. -/
noncomputable def Try.pinned : Pinned := { name := "ytomogkhdfaiekaa", sum := "f6cba480deb7cf8b0c0eb8bb0f3a585a96aad915ba89077aa139e725b419d51e", checked := Try.checked }
namespace Rows
def none {H : Type} : Left H := { results := [], args := [] }

/-- 'vivariumlaw17.LinearNames': WHATEVER THE INPUT: true; the input reads as it did. -/
def linearNamesSpec : ChangeSpec := { name := "linearNames", fn := fun _ => fun
  | [] => { results := [.lit (.bool true)], args := [] }
  | _ => none }
def linearNamesRow : OpenClaim := { program := "ytomogkhdfaiekaa", sum := "f6cba480deb7cf8b0c0eb8bb0f3a585a96aad915ba89077aa139e725b419d51e", func := "vivarium/vivariumlaw17.LinearNames", spec := "linearNames", unfollowed := true, recurses := true, plainKeys := false, apart := false }
def LinearNamesSaid : Prop := linearNamesRow.holds Try.pinned (OpenSpec.ofChange linearNamesSpec)

/-- ITS FALSE NEIGHBOUR: 'it returns false'. Refute it at one input. -/
def linearNamesWrong : ChangeSpec := { name := "linearNames", fn := fun _ => fun
  | [] => { results := [.lit (.bool false)], args := [] }
  | _ => none }
def LinearNamesWrongFalsely : Prop := linearNamesRow.holds Try.pinned (OpenSpec.ofChange linearNamesWrong)

/-- 'vivariumlaw17.LinearChecks': WHATEVER THE INPUT: true; the input reads as it did. -/
def linearChecksSpec : ChangeSpec := { name := "linearChecks", fn := fun _ => fun
  | [d] => { results := [.lit (.bool true)], args := [d] }
  | _ => none }
def linearChecksRow : OpenClaim := { program := "ytomogkhdfaiekaa", sum := "f6cba480deb7cf8b0c0eb8bb0f3a585a96aad915ba89077aa139e725b419d51e", func := "vivarium/vivariumlaw17.LinearChecks", spec := "linearChecks", unfollowed := true, recurses := true, plainKeys := false, apart := false }
def LinearChecksSaid : Prop := linearChecksRow.holds Try.pinned (OpenSpec.ofChange linearChecksSpec)

/-- ITS FALSE NEIGHBOUR: 'it returns false'. Refute it at one input. -/
def linearChecksWrong : ChangeSpec := { name := "linearChecks", fn := fun _ => fun
  | [d] => { results := [.lit (.bool false)], args := [d] }
  | _ => none }
def LinearChecksWrongFalsely : Prop := linearChecksRow.holds Try.pinned (OpenSpec.ofChange linearChecksWrong)

/-- 'vivariumlaw17.LinearTimeses': WHATEVER THE INPUT: true; the input reads as it did. -/
def linearTimesesSpec : ChangeSpec := { name := "linearTimeses", fn := fun _ => fun
  | [d1, d2] => { results := [.lit (.bool true)], args := [d1, d2] }
  | _ => none }
def linearTimesesRow : OpenClaim := { program := "ytomogkhdfaiekaa", sum := "f6cba480deb7cf8b0c0eb8bb0f3a585a96aad915ba89077aa139e725b419d51e", func := "vivarium/vivariumlaw17.LinearTimeses", spec := "linearTimeses", unfollowed := true, recurses := true, plainKeys := false, apart := false }
def LinearTimesesSaid : Prop := linearTimesesRow.holds Try.pinned (OpenSpec.ofChange linearTimesesSpec)

/-- ITS FALSE NEIGHBOUR: 'it returns false'. Refute it at one input. -/
def linearTimesesWrong : ChangeSpec := { name := "linearTimeses", fn := fun _ => fun
  | [d1, d2] => { results := [.lit (.bool false)], args := [d1, d2] }
  | _ => none }
def LinearTimesesWrongFalsely : Prop := linearTimesesRow.holds Try.pinned (OpenSpec.ofChange linearTimesesWrong)

/-- 'vivariumlaw17.LinearJumps': WHATEVER THE INPUT: true; the input reads as it did. -/
def linearJumpsSpec : ChangeSpec := { name := "linearJumps", fn := fun _ => fun
  | [d1, d2, d3, d4] => { results := [.lit (.bool true)], args := [d1, d2, d3, d4] }
  | _ => none }
def linearJumpsRow : OpenClaim := { program := "ytomogkhdfaiekaa", sum := "f6cba480deb7cf8b0c0eb8bb0f3a585a96aad915ba89077aa139e725b419d51e", func := "vivarium/vivariumlaw17.LinearJumps", spec := "linearJumps", unfollowed := true, recurses := true, plainKeys := false, apart := false }
def LinearJumpsSaid : Prop := linearJumpsRow.holds Try.pinned (OpenSpec.ofChange linearJumpsSpec)

/-- ITS FALSE NEIGHBOUR: 'it returns false'. Refute it at one input. -/
def linearJumpsWrong : ChangeSpec := { name := "linearJumps", fn := fun _ => fun
  | [d1, d2, d3, d4] => { results := [.lit (.bool false)], args := [d1, d2, d3, d4] }
  | _ => none }
def LinearJumpsWrongFalsely : Prop := linearJumpsRow.holds Try.pinned (OpenSpec.ofChange linearJumpsWrong)

/-- 'vivariumlaw17.LinearLines': WHATEVER THE INPUT: true; the input reads as it did. -/
def linearLinesSpec : ChangeSpec := { name := "linearLines", fn := fun _ => fun
  | [d1, d2, d3] => { results := [.lit (.bool true)], args := [d1, d2, d3] }
  | _ => none }
def linearLinesRow : OpenClaim := { program := "ytomogkhdfaiekaa", sum := "f6cba480deb7cf8b0c0eb8bb0f3a585a96aad915ba89077aa139e725b419d51e", func := "vivarium/vivariumlaw17.LinearLines", spec := "linearLines", unfollowed := true, recurses := true, plainKeys := false, apart := false }
def LinearLinesSaid : Prop := linearLinesRow.holds Try.pinned (OpenSpec.ofChange linearLinesSpec)

/-- ITS FALSE NEIGHBOUR: 'it returns false'. Refute it at one input. -/
def linearLinesWrong : ChangeSpec := { name := "linearLines", fn := fun _ => fun
  | [d1, d2, d3] => { results := [.lit (.bool false)], args := [d1, d2, d3] }
  | _ => none }
def LinearLinesWrongFalsely : Prop := linearLinesRow.holds Try.pinned (OpenSpec.ofChange linearLinesWrong)

/-- 'vivariumlaw17.LinearSums': WHATEVER THE INPUT: true; the input reads as it did. -/
def linearSumsSpec : ChangeSpec := { name := "linearSums", fn := fun _ => fun
  | [d1, d2, d3, d4, d5] => { results := [.lit (.bool true)], args := [d1, d2, d3, d4, d5] }
  | _ => none }
def linearSumsRow : OpenClaim := { program := "ytomogkhdfaiekaa", sum := "f6cba480deb7cf8b0c0eb8bb0f3a585a96aad915ba89077aa139e725b419d51e", func := "vivarium/vivariumlaw17.LinearSums", spec := "linearSums", unfollowed := true, recurses := true, plainKeys := false, apart := false }
def LinearSumsSaid : Prop := linearSumsRow.holds Try.pinned (OpenSpec.ofChange linearSumsSpec)

/-- ITS FALSE NEIGHBOUR: 'it returns false'. Refute it at one input. -/
def linearSumsWrong : ChangeSpec := { name := "linearSums", fn := fun _ => fun
  | [d1, d2, d3, d4, d5] => { results := [.lit (.bool false)], args := [d1, d2, d3, d4, d5] }
  | _ => none }
def LinearSumsWrongFalsely : Prop := linearSumsRow.holds Try.pinned (OpenSpec.ofChange linearSumsWrong)

/-- 'vivariumlaw17.LinearMakes': WHATEVER THE INPUT: true; the input reads as it did. -/
def linearMakesSpec : ChangeSpec := { name := "linearMakes", fn := fun _ => fun
  | [d1, d2, d3] => { results := [.lit (.bool true)], args := [d1, d2, d3] }
  | _ => none }
def linearMakesRow : OpenClaim := { program := "ytomogkhdfaiekaa", sum := "f6cba480deb7cf8b0c0eb8bb0f3a585a96aad915ba89077aa139e725b419d51e", func := "vivarium/vivariumlaw17.LinearMakes", spec := "linearMakes", unfollowed := true, recurses := true, plainKeys := false, apart := false }
def LinearMakesSaid : Prop := linearMakesRow.holds Try.pinned (OpenSpec.ofChange linearMakesSpec)

/-- ITS FALSE NEIGHBOUR: 'it returns false'. Refute it at one input. -/
def linearMakesWrong : ChangeSpec := { name := "linearMakes", fn := fun _ => fun
  | [d1, d2, d3] => { results := [.lit (.bool false)], args := [d1, d2, d3] }
  | _ => none }
def LinearMakesWrongFalsely : Prop := linearMakesRow.holds Try.pinned (OpenSpec.ofChange linearMakesWrong)

/-- 'vivariumlaw17.LinearNexts': WHATEVER THE INPUT: true; the input reads as it did. -/
def linearNextsSpec : ChangeSpec := { name := "linearNexts", fn := fun _ => fun
  | [d1, d2, d3] => { results := [.lit (.bool true)], args := [d1, d2, d3] }
  | _ => none }
def linearNextsRow : OpenClaim := { program := "ytomogkhdfaiekaa", sum := "f6cba480deb7cf8b0c0eb8bb0f3a585a96aad915ba89077aa139e725b419d51e", func := "vivarium/vivariumlaw17.LinearNexts", spec := "linearNexts", unfollowed := true, recurses := true, plainKeys := false, apart := false }
def LinearNextsSaid : Prop := linearNextsRow.holds Try.pinned (OpenSpec.ofChange linearNextsSpec)

/-- ITS FALSE NEIGHBOUR: 'it returns false'. Refute it at one input. -/
def linearNextsWrong : ChangeSpec := { name := "linearNexts", fn := fun _ => fun
  | [d1, d2, d3] => { results := [.lit (.bool false)], args := [d1, d2, d3] }
  | _ => none }
def LinearNextsWrongFalsely : Prop := linearNextsRow.holds Try.pinned (OpenSpec.ofChange linearNextsWrong)

/-- 'vivariumlaw17.LinearSteps': WHATEVER THE INPUT: true; the input reads as it did. -/
def linearStepsSpec : ChangeSpec := { name := "linearSteps", fn := fun _ => fun
  | [d1, d2, d3, d4, d5, d6] => { results := [.lit (.bool true)], args := [d1, d2, d3, d4, d5, d6] }
  | _ => none }
def linearStepsRow : OpenClaim := { program := "ytomogkhdfaiekaa", sum := "f6cba480deb7cf8b0c0eb8bb0f3a585a96aad915ba89077aa139e725b419d51e", func := "vivarium/vivariumlaw17.LinearSteps", spec := "linearSteps", unfollowed := true, recurses := true, plainKeys := false, apart := false }
def LinearStepsSaid : Prop := linearStepsRow.holds Try.pinned (OpenSpec.ofChange linearStepsSpec)

/-- ITS FALSE NEIGHBOUR: 'it returns false'. Refute it at one input. -/
def linearStepsWrong : ChangeSpec := { name := "linearSteps", fn := fun _ => fun
  | [d1, d2, d3, d4, d5, d6] => { results := [.lit (.bool false)], args := [d1, d2, d3, d4, d5, d6] }
  | _ => none }
def LinearStepsWrongFalsely : Prop := linearStepsRow.holds Try.pinned (OpenSpec.ofChange linearStepsWrong)

/-- 'vivariumlaw17.LinearCopies': WHATEVER THE INPUT: true; the input reads as it did. -/
def linearCopiesSpec : ChangeSpec := { name := "linearCopies", fn := fun _ => fun
  | [d1, d2, d3, d4] => { results := [.lit (.bool true)], args := [d1, d2, d3, d4] }
  | _ => none }
def linearCopiesRow : OpenClaim := { program := "ytomogkhdfaiekaa", sum := "f6cba480deb7cf8b0c0eb8bb0f3a585a96aad915ba89077aa139e725b419d51e", func := "vivarium/vivariumlaw17.LinearCopies", spec := "linearCopies", unfollowed := true, recurses := true, plainKeys := false, apart := false }
def LinearCopiesSaid : Prop := linearCopiesRow.holds Try.pinned (OpenSpec.ofChange linearCopiesSpec)

/-- ITS FALSE NEIGHBOUR: 'it returns false'. Refute it at one input. -/
def linearCopiesWrong : ChangeSpec := { name := "linearCopies", fn := fun _ => fun
  | [d1, d2, d3, d4] => { results := [.lit (.bool false)], args := [d1, d2, d3, d4] }
  | _ => none }
def LinearCopiesWrongFalsely : Prop := linearCopiesRow.holds Try.pinned (OpenSpec.ofChange linearCopiesWrong)

/-- 'vivariumlaw17.LinearBoth': WHATEVER THE INPUT: true; the input reads as it did. -/
def linearBothSpec : ChangeSpec := { name := "linearBoth", fn := fun _ => fun
  | [d1, d2, d3, d4] => { results := [.lit (.bool true)], args := [d1, d2, d3, d4] }
  | _ => none }
def linearBothRow : OpenClaim := { program := "ytomogkhdfaiekaa", sum := "f6cba480deb7cf8b0c0eb8bb0f3a585a96aad915ba89077aa139e725b419d51e", func := "vivarium/vivariumlaw17.LinearBoth", spec := "linearBoth", unfollowed := true, recurses := true, plainKeys := false, apart := false }
def LinearBothSaid : Prop := linearBothRow.holds Try.pinned (OpenSpec.ofChange linearBothSpec)

/-- ITS FALSE NEIGHBOUR: 'it returns false'. Refute it at one input. -/
def linearBothWrong : ChangeSpec := { name := "linearBoth", fn := fun _ => fun
  | [d1, d2, d3, d4] => { results := [.lit (.bool false)], args := [d1, d2, d3, d4] }
  | _ => none }
def LinearBothWrongFalsely : Prop := linearBothRow.holds Try.pinned (OpenSpec.ofChange linearBothWrong)

/- THE SECOND FORM. 'bulk': how many values and letters a reading holds, each counted each time it is reached (what is shared counts as often as it is met; a slice's spare places count too). A statement '..UptoSaid' is the law's where the arguments, and the package variables that the reading takes, are together of bulk at most 1048576: NARROWER than '..Said'. Prove '..Said' where nothing that the law and all that it calls make is longer than what came in: it says more and counts as full. Else prove '..UptoSaid'. A law counts once. -/
mutual
def uptoBulk {H : Type} : DataW H → Nat
  | .lit (.string bytes) => bytes.length + 1
  | .lit _ => 1
  | .nil => 1
  | .ptr d => uptoBulk d + 1
  | .slice elems spare => uptoBulkAll elems + uptoBulkAll spare + 1
  | .agg parts => uptoBulkAll parts + 1
  | .iface _ d => uptoBulk d + 1
  | .map entries => uptoBulkEntries entries + 1
  | .held _ => 1
def uptoBulkAll {H : Type} : List (DataW H) → Nat
  | [] => 0
  | d :: r => uptoBulk d + uptoBulkAll r
def uptoBulkEntries {H : Type} : List (Lit × DataW H) → Nat
  | [] => 0
  | x :: r => uptoBulkEntry x + uptoBulkEntries r
def uptoBulkEntry {H : Type} : Lit × DataW H → Nat
  | (.string bytes, d) => bytes.length + uptoBulk d + 1
  | (_, d) => uptoBulk d + 1
 end
def uptoSmall : (H : Type) → List (DataW H) → Bool := fun _ ds => decide (uptoBulkAll ds ≤ 1048576)
def OpenSpec.upto (s : _root_.Go.ChangeSpec) : _root_.Go.OpenSpec := { _root_.Go.OpenSpec.ofChange s with cond := some uptoSmall }

/-- 'vivariumlaw17.LinearNames', WHERE WHAT IT READS IS OF BULK AT MOST 1048576: true; the input reads as it did. -/
def linearNamesUptoRow : OpenClaim := { program := "ytomogkhdfaiekaa", sum := "f6cba480deb7cf8b0c0eb8bb0f3a585a96aad915ba89077aa139e725b419d51e", func := "vivarium/vivariumlaw17.LinearNames", spec := "linearNames", unfollowed := true, recurses := true, plainKeys := false, apart := false, narrowed := true }
def LinearNamesUptoSaid : Prop := linearNamesUptoRow.holds Try.pinned (OpenSpec.upto linearNamesSpec)

/-- 'vivariumlaw17.LinearChecks', WHERE WHAT IT READS IS OF BULK AT MOST 1048576: true; the input reads as it did. -/
def linearChecksUptoRow : OpenClaim := { program := "ytomogkhdfaiekaa", sum := "f6cba480deb7cf8b0c0eb8bb0f3a585a96aad915ba89077aa139e725b419d51e", func := "vivarium/vivariumlaw17.LinearChecks", spec := "linearChecks", unfollowed := true, recurses := true, plainKeys := false, apart := false, narrowed := true }
def LinearChecksUptoSaid : Prop := linearChecksUptoRow.holds Try.pinned (OpenSpec.upto linearChecksSpec)

/-- 'vivariumlaw17.LinearTimeses', WHERE WHAT IT READS IS OF BULK AT MOST 1048576: true; the input reads as it did. -/
def linearTimesesUptoRow : OpenClaim := { program := "ytomogkhdfaiekaa", sum := "f6cba480deb7cf8b0c0eb8bb0f3a585a96aad915ba89077aa139e725b419d51e", func := "vivarium/vivariumlaw17.LinearTimeses", spec := "linearTimeses", unfollowed := true, recurses := true, plainKeys := false, apart := false, narrowed := true }
def LinearTimesesUptoSaid : Prop := linearTimesesUptoRow.holds Try.pinned (OpenSpec.upto linearTimesesSpec)

/-- 'vivariumlaw17.LinearJumps', WHERE WHAT IT READS IS OF BULK AT MOST 1048576: true; the input reads as it did. -/
def linearJumpsUptoRow : OpenClaim := { program := "ytomogkhdfaiekaa", sum := "f6cba480deb7cf8b0c0eb8bb0f3a585a96aad915ba89077aa139e725b419d51e", func := "vivarium/vivariumlaw17.LinearJumps", spec := "linearJumps", unfollowed := true, recurses := true, plainKeys := false, apart := false, narrowed := true }
def LinearJumpsUptoSaid : Prop := linearJumpsUptoRow.holds Try.pinned (OpenSpec.upto linearJumpsSpec)

/-- 'vivariumlaw17.LinearLines', WHERE WHAT IT READS IS OF BULK AT MOST 1048576: true; the input reads as it did. -/
def linearLinesUptoRow : OpenClaim := { program := "ytomogkhdfaiekaa", sum := "f6cba480deb7cf8b0c0eb8bb0f3a585a96aad915ba89077aa139e725b419d51e", func := "vivarium/vivariumlaw17.LinearLines", spec := "linearLines", unfollowed := true, recurses := true, plainKeys := false, apart := false, narrowed := true }
def LinearLinesUptoSaid : Prop := linearLinesUptoRow.holds Try.pinned (OpenSpec.upto linearLinesSpec)

/-- 'vivariumlaw17.LinearSums', WHERE WHAT IT READS IS OF BULK AT MOST 1048576: true; the input reads as it did. -/
def linearSumsUptoRow : OpenClaim := { program := "ytomogkhdfaiekaa", sum := "f6cba480deb7cf8b0c0eb8bb0f3a585a96aad915ba89077aa139e725b419d51e", func := "vivarium/vivariumlaw17.LinearSums", spec := "linearSums", unfollowed := true, recurses := true, plainKeys := false, apart := false, narrowed := true }
def LinearSumsUptoSaid : Prop := linearSumsUptoRow.holds Try.pinned (OpenSpec.upto linearSumsSpec)

/-- 'vivariumlaw17.LinearMakes', WHERE WHAT IT READS IS OF BULK AT MOST 1048576: true; the input reads as it did. -/
def linearMakesUptoRow : OpenClaim := { program := "ytomogkhdfaiekaa", sum := "f6cba480deb7cf8b0c0eb8bb0f3a585a96aad915ba89077aa139e725b419d51e", func := "vivarium/vivariumlaw17.LinearMakes", spec := "linearMakes", unfollowed := true, recurses := true, plainKeys := false, apart := false, narrowed := true }
def LinearMakesUptoSaid : Prop := linearMakesUptoRow.holds Try.pinned (OpenSpec.upto linearMakesSpec)

/-- 'vivariumlaw17.LinearNexts', WHERE WHAT IT READS IS OF BULK AT MOST 1048576: true; the input reads as it did. -/
def linearNextsUptoRow : OpenClaim := { program := "ytomogkhdfaiekaa", sum := "f6cba480deb7cf8b0c0eb8bb0f3a585a96aad915ba89077aa139e725b419d51e", func := "vivarium/vivariumlaw17.LinearNexts", spec := "linearNexts", unfollowed := true, recurses := true, plainKeys := false, apart := false, narrowed := true }
def LinearNextsUptoSaid : Prop := linearNextsUptoRow.holds Try.pinned (OpenSpec.upto linearNextsSpec)

/-- 'vivariumlaw17.LinearSteps', WHERE WHAT IT READS IS OF BULK AT MOST 1048576: true; the input reads as it did. -/
def linearStepsUptoRow : OpenClaim := { program := "ytomogkhdfaiekaa", sum := "f6cba480deb7cf8b0c0eb8bb0f3a585a96aad915ba89077aa139e725b419d51e", func := "vivarium/vivariumlaw17.LinearSteps", spec := "linearSteps", unfollowed := true, recurses := true, plainKeys := false, apart := false, narrowed := true }
def LinearStepsUptoSaid : Prop := linearStepsUptoRow.holds Try.pinned (OpenSpec.upto linearStepsSpec)

/-- 'vivariumlaw17.LinearCopies', WHERE WHAT IT READS IS OF BULK AT MOST 1048576: true; the input reads as it did. -/
def linearCopiesUptoRow : OpenClaim := { program := "ytomogkhdfaiekaa", sum := "f6cba480deb7cf8b0c0eb8bb0f3a585a96aad915ba89077aa139e725b419d51e", func := "vivarium/vivariumlaw17.LinearCopies", spec := "linearCopies", unfollowed := true, recurses := true, plainKeys := false, apart := false, narrowed := true }
def LinearCopiesUptoSaid : Prop := linearCopiesUptoRow.holds Try.pinned (OpenSpec.upto linearCopiesSpec)

/-- 'vivariumlaw17.LinearBoth', WHERE WHAT IT READS IS OF BULK AT MOST 1048576: true; the input reads as it did. -/
def linearBothUptoRow : OpenClaim := { program := "ytomogkhdfaiekaa", sum := "f6cba480deb7cf8b0c0eb8bb0f3a585a96aad915ba89077aa139e725b419d51e", func := "vivarium/vivariumlaw17.LinearBoth", spec := "linearBoth", unfollowed := true, recurses := true, plainKeys := false, apart := false, narrowed := true }
def LinearBothUptoSaid : Prop := linearBothUptoRow.holds Try.pinned (OpenSpec.upto linearBothSpec)

end Rows
end Go.Proofs.Ytomogkhdfaiekaa
