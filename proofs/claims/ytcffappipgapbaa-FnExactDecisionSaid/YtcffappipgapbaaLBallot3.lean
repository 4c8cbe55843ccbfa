/- Ballots: decisions and splits: what the printed functions come to, for every list of at most 2^40 ballots. -/
import Derived.Test.YtcffappipgapbaaLBallot2
import Derived.Test.YtcffappipgapbaaA70
import Derived.Test.YtcffappipgapbaaA71
import Derived.Test.YtcffappipgapbaaA48
import Derived.Test.YtcffappipgapbaaA49
set_option linter.unusedVariables false
set_option linter.unusedSimpArgs false
namespace Go.Proofs.Ytcffappipgapbaa.L
open Go Go.RowKit Go.Proofs.Ytcffappipgapbaa.A Go.Proofs.YtcffappipgapbaaW.PrintWords

def splitB (l : List S63) : Bool := decide (votes l 1 > 0 ∧ votes l 2 > 0)
theorem sIsSplit_ev (l : List S63) (hl : l.length ≤ 1099511627776) : Ev (fun k => spec_IsSplit.f k l) (splitB l) := by
  unfold spec_IsSplit.f splitB
  refine Ev.bind (sVotesFor_ev l 1 hl) (Ev.ite (fun h => Ev.bind (sVotesFor_ev l 2 hl) (Ev.some_ ?_)) (fun h => Ev.some_ ?_))
  · simp [h]
  · simp [h]
theorem iIsSplit_ev (l : List S63) (hl : l.length ≤ 1099511627776) : Ev (fun k => impl_IsSplit.f k l) (splitB l) := by
  unfold impl_IsSplit.f splitB
  refine Ev.bind (iVotesFor_ev l 1 hl) (Ev.ite (fun h => Ev.bind (iVotesFor_ev l 2 hl) (Ev.some_ ?_)) (fun h => Ev.some_ ?_))
  · simp [h]
  · simp [h]
/-- The decision: by votes, by sums, by the first ballot. -/
def decB (l : List S63) : Int :=
  match l with
  | [] => 0
  | b :: _ => if okBallots l = true then
      (if votes l 1 - votes l 2 > 0 then 1 else if votes l 1 - votes l 2 < 0 then 2 else
        if sumFor l 1 - sumFor l 2 > 0 then 1 else if sumFor l 1 - sumFor l 2 < 0 then 2 else teamB b) else 0
theorem sDecision_ev (l : List S63) (hl : l.length ≤ 1099511627776) : Ev (fun k => spec_Decision.f k l) (decB l) := by
  unfold spec_Decision.f
  cases l with
  | nil =>
    refine Ev.pos rfl (Ev.step (fun k => spec_Decision.j0.eq_2 ..) (Ev.pos rfl (Ev.some_ rfl)))
  | cons b u =>
    refine Ev.neg (by simp only [List.length_cons]; omega) (Ev.bind (sAreBallots_ev _ hl) (Ev.step (fun k => spec_Decision.j0.eq_2 ..) ?_))
    refine Ev.ite (fun h => Ev.some_ ?_) (fun h => ?_)
    · have : okBallots (b :: u) = false := by simpa using h
      simp [decB, this]
    · have ho : okBallots (b :: u) = true := by simpa using h
      have v1 := votes_le (b :: u) 1
      have v2 := votes_le (b :: u) 2
      have s1 := sumFor_le (b :: u) 1
      have s2 := sumFor_le (b :: u) 2
      refine Ev.bind (sVotesFor_ev _ 1 hl) (Ev.bind (sVotesFor_ev _ 2 hl) ?_)
      have j1 : ∀ z : Int, Ev (fun k => spec_Decision.j1 k (b :: u) z) (if z > 0 then 1 else if z < 0 then 2 else teamB b) := by
        intro z
        refine Ev.step (fun k => spec_Decision.j1.eq_2 ..) (Ev.ite (fun h => Ev.some_ ?_) (fun h => Ev.ite (fun h2 => Ev.some_ ?_) (fun h2 => Ev.pos (by simp only [List.length_cons]; omega) ?_)))
        · rw [if_pos h]
        · rw [if_neg h, if_pos h2]
        · have e : rd_T63 (b :: u) 0 = b := rfl
          rw [if_neg h, if_neg h2]
          simp only [e, l16Of_eq, Option.bind_some]
          exact Ev.now _
      rw [w64 (by omega) (by omega)]
      refine Ev.ite (fun h => Ev.bind (sSumFor_ev _ 1 hl) (Ev.bind (sSumFor_ev _ 2 hl) ?_)) (fun h => ?_)
      · rw [w64 (by omega) (by omega)]
        refine Ev.cast (j1 _) ?_
        simp only [decB, ho, if_true]
        rw [if_neg (show ¬ votes (b :: u) 1 - votes (b :: u) 2 > 0 by omega), if_neg (show ¬ votes (b :: u) 1 - votes (b :: u) 2 < 0 by omega)]
      · refine Ev.cast (j1 _) ?_
        simp only [decB, ho, if_true]
        by_cases h1 : votes (b :: u) 1 - votes (b :: u) 2 > 0
        · rw [if_pos h1, if_pos h1]
        · rw [if_neg h1, if_neg h1, if_pos (by omega), if_pos (by omega)]
theorem iDecision_ev (l : List S63) (hl : l.length ≤ 1099511627776) : Ev (fun k => impl_Decision.f k l) (decB l) := by
  unfold impl_Decision.f
  cases l with
  | nil =>
    refine Ev.pos rfl (Ev.step (fun k => impl_Decision.j0.eq_2 ..) (Ev.pos rfl (Ev.some_ rfl)))
  | cons b u =>
    refine Ev.neg (by simp only [List.length_cons]; omega) (Ev.bind (iAreBallots_ev _ hl) (Ev.step (fun k => impl_Decision.j0.eq_2 ..) ?_))
    refine Ev.ite (fun h => Ev.some_ ?_) (fun h => ?_)
    · have : okBallots (b :: u) = false := by simpa using h
      simp [decB, this]
    · have ho : okBallots (b :: u) = true := by simpa using h
      have v1 := votes_le (b :: u) 1
      have v2 := votes_le (b :: u) 2
      have s1 := sumFor_le (b :: u) 1
      have s2 := sumFor_le (b :: u) 2
      refine Ev.bind (iVotesFor_ev _ 1 hl) (Ev.bind (iVotesFor_ev _ 2 hl) (Ev.bind (iSumFor_ev _ 1 hl) (Ev.bind (iSumFor_ev _ 2 hl) ?_)))
      have j1 : ∀ (x y : Int) (t : Bool), Ev (fun k => impl_Decision.j1 k (b :: u) x y t) (if t = true then 1 else if x < 0 then 2 else if y < 0 then 2 else teamB b) := by
        intro x y t
        refine Ev.step (fun k => impl_Decision.j1.eq_2 ..) (Ev.ite (fun h => Ev.some_ ?_) (fun h => Ev.ite (fun h2 => Ev.some_ ?_) (fun h2 => Ev.ite (fun h3 => Ev.some_ ?_) (fun h3 => Ev.pos (by simp only [List.length_cons]; omega) ?_))))
        · rw [if_pos h]
        · rw [if_neg h, if_pos h2]
        · rw [if_neg h, if_neg h2, if_pos h3]
        · have e : rd_T63 (b :: u) 0 = b := rfl
          rw [if_neg h, if_neg h2, if_neg h3]
          simp only [e, teamOf_eq, Option.bind_some]
          exact Ev.now _
      simp only [w64 (show -9223372036854775808 ≤ votes (b :: u) 1 - votes (b :: u) 2 by omega) (by omega), w64 (show -9223372036854775808 ≤ sumFor (b :: u) 1 - sumFor (b :: u) 2 by omega) (by omega)]
      simp only [decB, ho, if_true]
      refine Ev.ite (fun h => Ev.cast (j1 _ _ _) ?_) (fun h => Ev.ite (fun h2 => Ev.cast (j1 _ _ _) ?_) (fun h2 => Ev.cast (j1 _ _ _) ?_))
      · rw [if_pos rfl, if_pos h]
      · rw [if_neg h]
        simp only [h2, decide_eq_true_eq, gt_iff_lt, Int.lt_irrefl, if_false]
      · rw [if_neg (by simp), if_pos (show votes (b :: u) 1 - votes (b :: u) 2 < 0 by omega), if_neg h, if_pos (show votes (b :: u) 1 - votes (b :: u) 2 < 0 by omega)]
end Go.Proofs.Ytcffappipgapbaa.L
