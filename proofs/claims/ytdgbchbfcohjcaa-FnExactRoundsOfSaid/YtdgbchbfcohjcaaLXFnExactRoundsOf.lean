/- FnExactRoundsOf: the plain statement: the program and the reference answer alike, for every input. No condition. -/
import Derived.Test.YtdgbchbfcohjcaaLSeed
import Derived.Test.YtdgbchbfcohjcaaA9
set_option linter.unusedVariables false
set_option linter.unusedSimpArgs false
namespace Go.Proofs.Ytdgbchbfcohjcaa.L
open Go Go.RowKit Go.Proofs.Ytdgbchbfcohjcaa.A Go.Proofs.YtdgbchbfcohjcaaW.PrintWords
theorem FnExactRoundsOf_pure (a0 : Int) (a0w : (Lit.int .i64 a0).wf = true) : laws_FnExactRoundsOf.f a0 = some true := by
  unfold laws_FnExactRoundsOf.f
  simp [sRoundsOf_eq, iRoundsOf_eq]
end Go.Proofs.Ytdgbchbfcohjcaa.L
