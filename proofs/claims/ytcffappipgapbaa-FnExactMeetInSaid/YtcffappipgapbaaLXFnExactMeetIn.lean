/- FnExactMeetIn: the plain statement: the program and the reference answer alike, for every input. No condition. -/
import Derived.Test.YtcffappipgapbaaLMeet
import Derived.Test.YtcffappipgapbaaA19
set_option linter.unusedVariables false
set_option linter.unusedSimpArgs false
namespace Go.Proofs.Ytcffappipgapbaa.L
open Go Go.RowKit Go.Proofs.Ytcffappipgapbaa.A Go.Proofs.YtcffappipgapbaaW.PrintWords
theorem FnExactMeetIn_pure (a0 a1 a2 : Int)  (a0w : (Lit.int .i64 a0).wf = true) (a1w : (Lit.int .i64 a1).wf = true) (a2w : (Lit.int .i64 a2).wf = true) : ∃ k, laws_FnExactMeetIn.f k a0 a1 a2 = some true := by
  refine Ev.rounds (g := fun k => laws_FnExactMeetIn.f k a0 a1 a2) ?_
  unfold laws_FnExactMeetIn.f
  obtain ⟨r, h1, h2⟩ := meet_same a0 a1 a2
  exact Ev.bind h1 (Ev.bind h2 (Ev.pos rfl (Ev.now _)))
end Go.Proofs.Ytcffappipgapbaa.L
