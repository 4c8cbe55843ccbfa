/- FnExactGain: the plain statement: the program and the reference answer alike, for every input. No condition. -/
import Derived.Test.YtdgbchbfcohjcaaLHear
import Derived.Test.YtdgbchbfcohjcaaA59
set_option linter.unusedVariables false
set_option linter.unusedSimpArgs false
namespace Go.Proofs.Ytdgbchbfcohjcaa.L
open Go Go.RowKit Go.Proofs.Ytdgbchbfcohjcaa.A Go.Proofs.YtdgbchbfcohjcaaW.PrintWords
theorem FnExactGain_pure (l0 : List S67) (a1 : Int) (b0 : l0.length ≤ 9223372036854775807) (a1w : (Lit.int .i64 a1).wf = true) : ∃ k, laws_FnExactGain.f k l0 a1 = some true := by
  refine Ev.rounds (g := fun k => laws_FnExactGain.f k l0 a1) ?_
  unfold laws_FnExactGain.f
  simp only [szHearerS_eq l0 1048576 (by omega) (by omega) b0, Option.bind_some]
  refine Ev.ite (fun _ => Ev.now _) (fun hs => ?_)
  have hl : l0.length ≤ 1048576 := by split at hs <;> omega
  refine Ev.bind (toHearerS_ev l0 (by omega)) ?_
  refine Ev.bind (sGain_ev _ _ (by simp; omega)) ?_
  refine Ev.bind (toHearerS_ev l0 (by omega)) ?_
  refine Ev.bind (iGain_ev _ _ (by simp; omega)) ?_
  refine Ev.pos rfl ?_
  refine Ev.bind (toHearerS_ev l0 (by omega)) ?_
  refine Ev.bind (eqHearerS_ev _ (by simp; omega)) ?_
  exact Ev.pos rfl (Ev.now _)
end Go.Proofs.Ytdgbchbfcohjcaa.L
