/- FnExactSeedOrder: the plain statement: the program and the reference answer alike, for every input. No condition. -/
import Derived.Test.YtdgbchbfcohjcaaLSeed
import Derived.Test.YtdgbchbfcohjcaaLInt
import Derived.Test.YtdgbchbfcohjcaaLMark
import Derived.Test.YtdgbchbfcohjcaaA47
set_option linter.unusedVariables false
set_option linter.unusedSimpArgs false
namespace Go.Proofs.Ytdgbchbfcohjcaa.L
open Go Go.RowKit Go.Proofs.Ytdgbchbfcohjcaa.A Go.Proofs.YtdgbchbfcohjcaaW.PrintWords
theorem FnExactSeedOrder_pure (a0 : Int)  (a0w : (Lit.int .i64 a0).wf = true) : ∃ k, laws_FnExactSeedOrder.f k a0 = some true := by
  refine Ev.rounds (g := fun k => laws_FnExactSeedOrder.f k a0) ?_
  unfold laws_FnExactSeedOrder.f
  have hl := seed_length a0
  refine Ev.bind (sSeedOrder_ev a0) ?_
  refine Ev.bind (iSeedOrder_ev a0) ?_
  refine Ev.bind (eqIntS_ev _ _ (by omega)) ?_
  refine Ev.pos (by simp) ?_
  refine Ev.bind (markIntS_ev _ 1 (by omega) (by omega) (by omega)) ?_
  refine Ev.bind (heldIntS_ev _ 1 (by omega) (by omega) (by omega)) ?_
  refine Ev.neg (by omega) (Ev.pos rfl ?_)
  refine Ev.bind (iSeedOrder_ev a0) ?_
  refine Ev.bind (eqIntS_ev _ _ (by omega)) ?_
  refine Ev.pos (by simp) ?_
  refine Ev.bind (heldIntS_ev _ 1 (by omega) (by omega) (by omega)) ?_
  exact Ev.neg (by omega) (Ev.pos rfl (Ev.now _))
end Go.Proofs.Ytdgbchbfcohjcaa.L
