/- Halls: the winner: what the printed functions come to, for every list of at most 2^40 hearers. -/
import Derived.Test.YtcffappipgapbaaLHear
import Derived.Test.YtcffappipgapbaaA60
import Derived.Test.YtcffappipgapbaaA66
set_option linter.unusedVariables false
set_option linter.unusedSimpArgs false
namespace Go.Proofs.Ytcffappipgapbaa.L
open Go Go.RowKit Go.Proofs.Ytcffappipgapbaa.A Go.Proofs.YtcffappipgapbaaW.PrintWords

def hallW (l : List S72) : Int := if okHs l = true then
  (if gain l 1 - gain l 2 > 0 then 1 else if gain l 1 - gain l 2 < 0 then 2 else
    if cnt (aftP 1) l - cnt (aftP 2) l > 0 then 1 else if cnt (aftP 1) l - cnt (aftP 2) l < 0 then 2 else 0) else 0
theorem gain_le (l : List S72) (a : Int) : -l.length ≤ gain l a ∧ gain l a ≤ l.length := by
  have h1 := cnt_le (aftP a) l
  have h2 := cnt_le (befP a) l
  unfold gain
  omega
theorem sHallWinner_ev (l : List S72) (hl : l.length ≤ 1099511627776) : Ev (fun k => spec_HallWinner.f k l) (hallW l) := by
  unfold spec_HallWinner.f hallW
  refine Ev.bind (sAreHearers_ev l hl) (Ev.ite (fun ho => ?_) (fun ho => Ev.some_ ?_))
  · rw [if_pos ho]
    have g1 := gain_le l 1
    have g2 := gain_le l 2
    have c1 := cnt_le (aftP 1) l
    have c2 := cnt_le (aftP 2) l
    have j0 : ∀ z : Int, Ev (fun k => spec_HallWinner.j0 k z) (if z > 0 then 1 else if z < 0 then 2 else 0) := by
      intro z
      refine Ev.step (fun k => spec_HallWinner.j0.eq_2 ..) (Ev.ite (fun h => Ev.some_ ?_) (fun h => Ev.ite (fun h2 => Ev.some_ ?_) (fun h2 => Ev.some_ ?_)))
      · rw [if_pos h]
      · rw [if_neg h, if_pos h2]
      · rw [if_neg h, if_neg h2]
    refine Ev.bind (sGain_ev l 1 hl) (Ev.bind (sGain_ev l 2 hl) ?_)
    rw [w64 (by omega) (by omega)]
    refine Ev.ite (fun h => Ev.bind (sAfter_ev l 1 hl) (Ev.bind (sAfter_ev l 2 hl) ?_)) (fun h => ?_)
    · rw [w64 (by omega) (by omega)]
      refine Ev.cast (j0 _) ?_
      rw [if_neg (show ¬ gain l 1 - gain l 2 > 0 by omega), if_neg (show ¬ gain l 1 - gain l 2 < 0 by omega)]
    · refine Ev.cast (j0 _) ?_
      by_cases h1 : gain l 1 - gain l 2 > 0
      · rw [if_pos h1, if_pos h1]
      · rw [if_neg h1, if_neg h1, if_pos (by omega), if_pos (by omega)]
  · rw [if_neg ho]
theorem iHallWinner_ev (l : List S72) (hl : l.length ≤ 1099511627776) : Ev (fun k => impl_HallWinner.f k l) (hallW l) := by
  unfold impl_HallWinner.f hallW
  refine Ev.bind (iAreHearers_ev l hl) (Ev.ite (fun ho => ?_) (fun ho => Ev.some_ ?_))
  · rw [if_pos ho]
    have g1 := gain_le l 1
    have g2 := gain_le l 2
    have c1 := cnt_le (aftP 1) l
    have c2 := cnt_le (aftP 2) l
    have j0 : ∀ (x y : Int) (t : Bool), Ev (fun k => impl_HallWinner.j0 k x y t) (if t = true then 1 else if x < 0 then 2 else if y < 0 then 2 else 0) := by
      intro x y t
      refine Ev.step (fun k => impl_HallWinner.j0.eq_2 ..) (Ev.ite (fun h => Ev.some_ ?_) (fun h => Ev.ite (fun h2 => Ev.some_ ?_) (fun h2 => Ev.ite (fun h3 => Ev.some_ ?_) (fun h3 => Ev.some_ ?_))))
      · rw [if_pos h]
      · rw [if_neg h, if_pos h2]
      · rw [if_neg h, if_neg h2, if_pos h3]
      · rw [if_neg h, if_neg h2, if_neg h3]
    refine Ev.bind (iGain_ev l 1 hl) (Ev.bind (iGain_ev l 2 hl) (Ev.bind (iAfter_ev l 1 hl) (Ev.bind (iAfter_ev l 2 hl) ?_)))
    simp only [w64 (show -9223372036854775808 ≤ gain l 1 - gain l 2 by omega) (by omega), w64 (show -9223372036854775808 ≤ cnt (aftP 1) l - cnt (aftP 2) l by omega) (by omega)]
    refine Ev.ite (fun h => Ev.cast (j0 _ _ _) ?_) (fun h => Ev.ite (fun h2 => Ev.cast (j0 _ _ _) ?_) (fun h2 => Ev.cast (j0 _ _ _) ?_))
    · rw [if_pos rfl, if_pos h]
    · rw [if_neg h]
      simp only [h2, decide_eq_true_eq, gt_iff_lt, Int.lt_irrefl, if_false]
    · rw [if_neg (by simp), if_pos (show gain l 1 - gain l 2 < 0 by omega), if_neg h, if_pos (show gain l 1 - gain l 2 < 0 by omega)]
  · rw [if_neg ho]
end Go.Proofs.Ytcffappipgapbaa.L
