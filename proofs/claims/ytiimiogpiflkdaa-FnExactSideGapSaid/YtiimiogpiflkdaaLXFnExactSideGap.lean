/- FnExactSideGap: the plain statement: the program and the reference answer alike, for every input. No condition. -/
import Derived.Test.YtiimiogpiflkdaaLGap
import Derived.Test.YtiimiogpiflkdaaA41
set_option linter.unusedVariables false
set_option linter.unusedSimpArgs false
namespace Go.Proofs.Ytiimiogpiflkdaa.L
open Go Go.RowKit Go.Proofs.Ytiimiogpiflkdaa.A Go.Proofs.YtiimiogpiflkdaaW.PrintWords
theorem FnExactSideGap_pure (l0 : List S64) (l1 : List S73) (b0 : l0.length ≤ 9223372036854775807) (b1 : ∀ x ∈ l0, x.f5.length ≤ 9223372036854775807) (b2 : l1.length ≤ 9223372036854775807) : ∃ k, laws_FnExactSideGap.f k l0 l1 = some true := by
  refine Ev.rounds (g := fun k => laws_FnExactSideGap.f k l0 l1) ?_
  unfold laws_FnExactSideGap.f
  obtain ⟨v, hv, hv1, hv2⟩ := szTeamS_ev l0 b0 b1
  refine Ev.bind hv (Ev.ite (fun _ => Ev.now _) (fun hs => ?_))
  obtain ⟨hl, hi⟩ := hv2 hs
  have hs := (small_map l0 (by omega) (fun x hx => by have := hi x hx; omega))
  refine Ev.bnd (szPairS_eq l1 v (by omega) hv1 b2) (Ev.ite (fun _ => Ev.now _) (fun hs2 => ?_))
  have hl1 : l1.length ≤ 1048576 := by split at hs2 <;> omega
  refine Ev.bind (toTeamS_ev l0 (by omega) (fun x hx => by have := hi x hx; omega)) ?_
  refine Ev.bind (toPairS_ev l1 (by omega)) ?_
  refine Ev.bind (sSideGap_ev _ _ hs (by simp; omega)) ?_
  refine Ev.bind (toTeamS_ev l0 (by omega) (fun x hx => by have := hi x hx; omega)) ?_
  refine Ev.bind (toPairS_ev l1 (by omega)) ?_
  refine Ev.bind (iSideGap_ev _ _ hs (by simp; omega)) ?_
  refine Ev.pos rfl ?_
  refine Ev.bind (toTeamS_ev l0 (by omega) (fun x hx => by have := hi x hx; omega)) ?_
  refine Ev.bind (eqTeamS_ev _ hs) ?_
  refine Ev.pos rfl ?_
  refine Ev.bind (toPairS_ev l1 (by omega)) ?_
  refine Ev.bind (eqPairS_ev _ (by simp; omega)) ?_
  exact Ev.pos rfl (Ev.now _)
end Go.Proofs.Ytiimiogpiflkdaa.L
