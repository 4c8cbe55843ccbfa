/- FnExactIsRanking: the plain statement: the program and the reference answer alike, for every input. No condition. -/
import Derived.Test.YtdgbchbfcohjcaaLRank1
import Derived.Test.YtdgbchbfcohjcaaLInt
import Derived.Test.YtdgbchbfcohjcaaA39
set_option linter.unusedVariables false
set_option linter.unusedSimpArgs false
namespace Go.Proofs.Ytdgbchbfcohjcaa.L
open Go Go.RowKit Go.Proofs.Ytdgbchbfcohjcaa.A Go.Proofs.YtdgbchbfcohjcaaW.PrintWords
theorem FnExactIsRanking_pure (l0 : List Int) (a1 : Int) (b0 : l0.length ≤ 9223372036854775807) (a1w : (Lit.int .i64 a1).wf = true) : ∃ k, laws_FnExactIsRanking.f k l0 a1 = some true := by
  refine Ev.rounds (g := fun k => laws_FnExactIsRanking.f k l0 a1) ?_
  unfold laws_FnExactIsRanking.f
  refine Ev.ite (fun _ => Ev.now _) (fun hs => ?_)
  refine Ev.bind (toIntS_ev l0 (by omega)) ?_
  refine Ev.bind (sIsRanking_ev _ _ (by omega)) ?_
  refine Ev.bind (toIntS_ev l0 (by omega)) ?_
  refine Ev.bind (iIsRanking_ev _ _ (by omega)) ?_
  refine Ev.neg (by simp) ?_
  refine Ev.bind (toIntS_ev l0 (by omega)) ?_
  refine Ev.bind (eqIntS_ev _ _ (by omega)) ?_
  exact Ev.pos (by simp) (Ev.now _)
end Go.Proofs.Ytdgbchbfcohjcaa.L
