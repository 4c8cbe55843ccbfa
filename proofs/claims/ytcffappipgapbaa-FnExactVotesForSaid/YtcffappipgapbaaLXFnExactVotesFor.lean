/- FnExactVotesFor: the plain statement: the program and the reference answer alike, for every input. No condition. -/
import Derived.Test.YtcffappipgapbaaLBallot2
import Derived.Test.YtcffappipgapbaaA47
set_option linter.unusedVariables false
set_option linter.unusedSimpArgs false
namespace Go.Proofs.Ytcffappipgapbaa.L
open Go Go.RowKit Go.Proofs.Ytcffappipgapbaa.A Go.Proofs.YtcffappipgapbaaW.PrintWords
theorem FnExactVotesFor_pure (l0 : List S65) (a1 : Int) (b0 : l0.length ≤ 9223372036854775807) (a1w : (Lit.int .i64 a1).wf = true) : ∃ k, laws_FnExactVotesFor.f k l0 a1 = some true := by
  refine Ev.rounds (g := fun k => laws_FnExactVotesFor.f k l0 a1) ?_
  unfold laws_FnExactVotesFor.f
  simp only [szBallotS_eq l0 1048576 (by omega) (by omega) b0, Option.bind_some]
  refine Ev.ite (fun _ => Ev.now _) (fun hs => ?_)
  have hl : l0.length ≤ 1048576 := by split at hs <;> omega
  refine Ev.bind (toBallotS_ev l0 (by omega)) ?_
  refine Ev.bind (sVotesFor_ev _ _ (by simp; omega)) ?_
  refine Ev.bind (toBallotS_ev l0 (by omega)) ?_
  refine Ev.bind (iVotesFor_ev _ _ (by simp; omega)) ?_
  refine Ev.pos rfl ?_
  refine Ev.bind (toBallotS_ev l0 (by omega)) ?_
  refine Ev.bind (eqBallotS_ev _ (by simp; omega)) ?_
  exact Ev.pos rfl (Ev.now _)
end Go.Proofs.Ytcffappipgapbaa.L
