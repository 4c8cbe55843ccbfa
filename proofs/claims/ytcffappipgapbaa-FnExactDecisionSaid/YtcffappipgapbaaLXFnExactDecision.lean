/- FnExactDecision: the plain statement: the program and the reference answer alike, for every input. No condition. -/
import Derived.Test.YtcffappipgapbaaLBallot3
import Derived.Test.YtcffappipgapbaaA72
set_option linter.unusedVariables false
set_option linter.unusedSimpArgs false
namespace Go.Proofs.Ytcffappipgapbaa.L
open Go Go.RowKit Go.Proofs.Ytcffappipgapbaa.A Go.Proofs.YtcffappipgapbaaW.PrintWords
theorem FnExactDecision_pure (l0 : List S65) (b0 : l0.length ≤ 9223372036854775807) : ∃ k, laws_FnExactDecision.f k l0 = some true := by
  refine Ev.rounds (g := fun k => laws_FnExactDecision.f k l0) ?_
  unfold laws_FnExactDecision.f
  simp only [szBallotS_eq l0 1048576 (by omega) (by omega) b0, Option.bind_some]
  refine Ev.ite (fun _ => Ev.now _) (fun hs => ?_)
  have hl : l0.length ≤ 1048576 := by split at hs <;> omega
  refine Ev.bind (toBallotS_ev l0 (by omega)) ?_
  refine Ev.bind (sDecision_ev _ (by simp; omega)) ?_
  refine Ev.bind (toBallotS_ev l0 (by omega)) ?_
  refine Ev.bind (iDecision_ev _ (by simp; omega)) ?_
  refine Ev.pos rfl ?_
  refine Ev.bind (toBallotS_ev l0 (by omega)) ?_
  refine Ev.bind (eqBallotS_ev _ (by simp; omega)) ?_
  exact Ev.pos rfl (Ev.now _)
end Go.Proofs.Ytcffappipgapbaa.L
