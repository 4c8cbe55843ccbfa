/- FnExactTotalWins: the plain statement: the program and the reference answer alike, for every input. No condition. -/
import Derived.Test.YtiimiogpiflkdaaLTeam3
import Derived.Test.YtiimiogpiflkdaaA29
set_option linter.unusedVariables false
set_option linter.unusedSimpArgs false
namespace Go.Proofs.Ytiimiogpiflkdaa.L
open Go Go.RowKit Go.Proofs.Ytiimiogpiflkdaa.A Go.Proofs.YtiimiogpiflkdaaW.PrintWords
theorem FnExactTotalWins_pure (l0 : List S64) (b0 : l0.length ≤ 9223372036854775807) (b1 : ∀ x ∈ l0, x.f5.length ≤ 9223372036854775807) : ∃ k, laws_FnExactTotalWins.f k l0 = some true := by
  refine Ev.rounds (g := fun k => laws_FnExactTotalWins.f k l0) ?_
  unfold laws_FnExactTotalWins.f
  obtain ⟨v, hv, _, hv2⟩ := szTeamS_ev l0 b0 b1
  refine Ev.bind hv (Ev.ite (fun _ => Ev.now _) (fun hs => ?_))
  obtain ⟨hl, hi⟩ := hv2 hs
  have hs := (small_map l0 (by omega) (fun x hx => by have := hi x hx; omega))
  refine Ev.bind (toTeamS_ev l0 (by omega) (fun x hx => by have := hi x hx; omega)) ?_
  refine Ev.bind (sTotalWins_ev _ hs) ?_
  refine Ev.bind (toTeamS_ev l0 (by omega) (fun x hx => by have := hi x hx; omega)) ?_
  refine Ev.bind (iTotalWins_ev _ hs) ?_
  refine Ev.pos rfl ?_
  refine Ev.bind (toTeamS_ev l0 (by omega) (fun x hx => by have := hi x hx; omega)) ?_
  refine Ev.bind (eqTeamS_ev _ hs) ?_
  exact Ev.pos rfl (Ev.now _)
end Go.Proofs.Ytiimiogpiflkdaa.L
