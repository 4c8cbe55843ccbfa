/- FnExactPairWinner: the plain statement: the program and the reference answer alike, for every input. No condition. -/
import Derived.Test.YtcffappipgapbaaLRank3
import Derived.Test.YtcffappipgapbaaA79
set_option linter.unusedVariables false
set_option linter.unusedSimpArgs false
namespace Go.Proofs.Ytcffappipgapbaa.L
open Go Go.RowKit Go.Proofs.Ytcffappipgapbaa.A Go.Proofs.YtcffappipgapbaaW.PrintWords
theorem FnExactPairWinner_pure (l0 : List (List Int)) (a1 : Int) (b0 : l0.length ≤ 9223372036854775807) (b1 : ∀ x ∈ l0, x.length ≤ 9223372036854775807) (a1w : (Lit.int .i64 a1).wf = true) : ∃ k, laws_FnExactPairWinner.f k l0 a1 = some true := by
  refine Ev.rounds (g := fun k => laws_FnExactPairWinner.f k l0 a1) ?_
  unfold laws_FnExactPairWinner.f
  obtain ⟨v, hv, hv2⟩ := szIntSS_ev l0 b0 b1
  refine Ev.bind hv (Ev.ite (fun _ => Ev.now _) (fun hs => ?_))
  obtain ⟨hl, hi⟩ := hv2 hs
  refine Ev.bind (toIntSS_ev l0 (by omega) (fun x hx => by have := hi x hx; omega)) ?_
  refine Ev.bind (sPairWinner_ev _ _ (by omega) (fun x hx => by have := hi x hx; omega)) ?_
  refine Ev.bind (toIntSS_ev l0 (by omega) (fun x hx => by have := hi x hx; omega)) ?_
  refine Ev.bind (iPairWinner_ev _ _ (by omega) (fun x hx => by have := hi x hx; omega)) ?_
  refine Ev.pos rfl ?_
  refine Ev.bind (toIntSS_ev l0 (by omega) (fun x hx => by have := hi x hx; omega)) ?_
  refine Ev.bind (eqIntSS_ev _ (by omega) (fun x hx => by have := hi x hx; omega)) ?_
  exact Ev.pos rfl (Ev.now _)
end Go.Proofs.Ytcffappipgapbaa.L
