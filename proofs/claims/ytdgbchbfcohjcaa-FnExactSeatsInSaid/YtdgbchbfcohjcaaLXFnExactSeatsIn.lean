/- FnExactSeatsIn: the plain statement: the program and the reference answer alike, for every input. No condition. -/
import Derived.Test.YtdgbchbfcohjcaaLRoom
import Derived.Test.YtdgbchbfcohjcaaA62
set_option linter.unusedVariables false
set_option linter.unusedSimpArgs false
namespace Go.Proofs.Ytdgbchbfcohjcaa.L
open Go Go.RowKit Go.Proofs.Ytdgbchbfcohjcaa.A Go.Proofs.YtdgbchbfcohjcaaW.PrintWords
theorem FnExactSeatsIn_pure (l0 : List S72) (b0 : l0.length ≤ 9223372036854775807) : ∃ k, laws_FnExactSeatsIn.f k l0 = some true := by
  refine Ev.rounds (g := fun k => laws_FnExactSeatsIn.f k l0) ?_
  unfold laws_FnExactSeatsIn.f
  simp only [szRoomS_eq l0 1048576 (by omega) (by omega) b0, Option.bind_some]
  refine Ev.ite (fun _ => Ev.now _) (fun hs => ?_)
  have hl : l0.length ≤ 1048576 := by split at hs <;> omega
  refine Ev.bind (toRoomS_ev l0 (by omega)) ?_
  refine Ev.bind (sSeatsIn_ev _ (by simp; omega)) ?_
  refine Ev.bind (toRoomS_ev l0 (by omega)) ?_
  refine Ev.bind (iSeatsIn_ev _ (by simp; omega)) ?_
  refine Ev.pos rfl ?_
  refine Ev.bind (toRoomS_ev l0 (by omega)) ?_
  refine Ev.bind (eqRoomS_ev _ (by simp; omega)) ?_
  exact Ev.pos rfl (Ev.now _)
end Go.Proofs.Ytdgbchbfcohjcaa.L
