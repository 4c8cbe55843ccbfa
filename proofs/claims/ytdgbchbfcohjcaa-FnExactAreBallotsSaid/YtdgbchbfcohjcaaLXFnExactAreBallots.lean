/- FnExactAreBallots: the plain statement: the program and the reference answer alike, for every input. No condition. -/
import Derived.Test.YtdgbchbfcohjcaaLBallot
import Derived.Test.YtdgbchbfcohjcaaA54
set_option linter.unusedVariables false
set_option linter.unusedSimpArgs false
namespace Go.Proofs.Ytdgbchbfcohjcaa.L
open Go Go.RowKit Go.Proofs.Ytdgbchbfcohjcaa.A Go.Proofs.YtdgbchbfcohjcaaW.PrintWords
theorem FnExactAreBallots_pure (l0 : List S23) (b0 : l0.length ≤ 9223372036854775807) : ∃ k, laws_FnExactAreBallots.f k l0 = some true := by
  refine Ev.rounds (g := fun k => laws_FnExactAreBallots.f k l0) ?_
  unfold laws_FnExactAreBallots.f
  simp only [szBallotS_eq l0 1048576 (by omega) (by omega) b0, Option.bind_some]
  refine Ev.ite (fun _ => Ev.now _) (fun hs => ?_)
  have hl : l0.length ≤ 1048576 := by split at hs <;> omega
  refine Ev.bind (toBallotS_ev l0 (by omega)) ?_
  refine Ev.bind (sAreBallots_ev _ (by simp; omega)) ?_
  refine Ev.bind (toBallotS_ev l0 (by omega)) ?_
  refine Ev.bind (iAreBallots_ev _ (by simp; omega)) ?_
  refine Ev.neg (by simp) ?_
  refine Ev.bind (toBallotS_ev l0 (by omega)) ?_
  refine Ev.bind (eqBallotS_ev _ (by simp; omega)) ?_
  exact Ev.pos rfl (Ev.now _)
end Go.Proofs.Ytdgbchbfcohjcaa.L
