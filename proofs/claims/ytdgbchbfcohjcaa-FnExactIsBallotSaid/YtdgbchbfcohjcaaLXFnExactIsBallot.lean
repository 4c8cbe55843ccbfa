/- FnExactIsBallot: the plain statement: the program and the reference answer alike, for every input. No condition. -/
import Derived.Test.YtdgbchbfcohjcaaLBallot
import Derived.Test.YtdgbchbfcohjcaaA6
set_option linter.unusedVariables false
set_option linter.unusedSimpArgs false
namespace Go.Proofs.Ytdgbchbfcohjcaa.L
open Go Go.RowKit Go.Proofs.Ytdgbchbfcohjcaa.A Go.Proofs.YtdgbchbfcohjcaaW.PrintWords
theorem FnExactIsBallot_pure (x0 : S23) : laws_FnExactIsBallot.f x0.f0 x0.f1 x0.f2 = some true := by
  unfold laws_FnExactIsBallot.f
  simp only [laws_toBallot.f, Option.bind_some]
  rw [show spec_IsBallot.f x0.f0 x0.f1 x0.f2 = _ from sIsBallot_eq ⟨x0.f0, x0.f1, x0.f2⟩, show impl_IsBallot.f x0.f0 x0.f1 x0.f2 = _ from iIsBallot_eq ⟨x0.f0, x0.f1, x0.f2⟩]
  simp
end Go.Proofs.Ytdgbchbfcohjcaa.L
