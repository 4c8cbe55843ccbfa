/- FnExactIsFairOrder: the plain statement: the program and the reference answer alike, for every input. No condition. -/
import Derived.Test.YtdgbchbfcohjcaaLFair
import Derived.Test.YtdgbchbfcohjcaaLInt
import Derived.Test.YtdgbchbfcohjcaaA42
set_option linter.unusedVariables false
set_option linter.unusedSimpArgs false
namespace Go.Proofs.Ytdgbchbfcohjcaa.L
open Go Go.RowKit Go.Proofs.Ytdgbchbfcohjcaa.A Go.Proofs.YtdgbchbfcohjcaaW.PrintWords
theorem FnExactIsFairOrder_pure (l0 l1 : List Int) (b0 : l0.length ≤ 9223372036854775807) (b1 : l1.length ≤ 9223372036854775807) : ∃ k, laws_FnExactIsFairOrder.f k l0 l1 = some true := by
  refine Ev.rounds (g := fun k => laws_FnExactIsFairOrder.f k l0 l1) ?_
  unfold laws_FnExactIsFairOrder.f
  refine Ev.ite (fun _ => Ev.now _) (fun hs => ?_)
  refine Ev.ite (fun _ => Ev.now _) (fun hs1 => ?_)
  refine Ev.bind (toIntS_ev l0 (by omega)) ?_
  refine Ev.bind (toIntS_ev l1 (by omega)) ?_
  refine Ev.bind (sIsFairOrder_ev _ _ (by omega) (by omega)) ?_
  refine Ev.bind (toIntS_ev l0 (by omega)) ?_
  refine Ev.bind (toIntS_ev l1 (by omega)) ?_
  refine Ev.bind (iIsFairOrder_ev _ _ (by omega) (by omega)) ?_
  refine Ev.neg (by simp) ?_
  refine Ev.bind (toIntS_ev l0 (by omega)) ?_
  refine Ev.bind (eqIntS_ev _ _ (by omega)) ?_
  refine Ev.pos (by simp) ?_
  refine Ev.bind (toIntS_ev l1 (by omega)) ?_
  refine Ev.bind (eqIntS_ev _ _ (by omega)) ?_
  exact Ev.pos (by simp) (Ev.now _)
end Go.Proofs.Ytdgbchbfcohjcaa.L
