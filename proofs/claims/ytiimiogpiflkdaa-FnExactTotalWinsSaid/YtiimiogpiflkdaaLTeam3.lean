/- The sum of the wins: what the printed functions come to, for every small list of teams. -/
import Derived.Test.YtiimiogpiflkdaaLTeam2
import Derived.Test.YtiimiogpiflkdaaA27
import Derived.Test.YtiimiogpiflkdaaA28
set_option linter.unusedVariables false
set_option linter.unusedSimpArgs false
namespace Go.Proofs.Ytiimiogpiflkdaa.L
open Go Go.RowKit Go.Proofs.Ytiimiogpiflkdaa.A Go.Proofs.YtiimiogpiflkdaaW.PrintWords

def winsT (l : List Tm) : Nat → Nat → Int → Int
  | 0, _, a => a
  | d + 1, n, a => winsT l d (n + 1) (wrap64 (a + (rdT l n).f2))
theorem sWins_l0 (l : List Tm) (hs : Small l) (ha : areT l = true) : ∀ (d n : Nat) (a : Int), n + d = l.length → Ev (fun k => spec_TotalWins.l0 k l a (n : Int)) (winsT l d n a) := by
  have hl := hs.1
  intro d
  induction d with
  | zero =>
    intro n a hd
    exact Ev.step (fun k => spec_TotalWins.l0.eq_2 ..) (Ev.neg (by omega) (Ev.now _))
  | succ d ih =>
    intro n a hd
    refine Ev.step (fun k => spec_TotalWins.l0.eq_2 ..) (Ev.pos (by omega) (Ev.bind (sAreTeams_ev l hs) (Ev.pos ha (Ev.pos (by omega) ?_))))
    simp only [w64s (show n < 4611686018427387904 by omega)]
    exact ih (n + 1) _ (by omega)
def sumT (l : List Tm) : Int := if areT l = true then winsT l l.length 0 0 else 0
theorem sTotalWins_ev (l : List Tm) (hs : Small l) : Ev (fun k => spec_TotalWins.f k l) (sumT l) := by
  unfold spec_TotalWins.f sumT
  by_cases ha : areT l = true
  · rw [if_pos ha]
    exact sWins_l0 l hs ha l.length 0 0 (by omega)
  · rw [if_neg ha]
    refine Ev.step (fun k => spec_TotalWins.l0.eq_2 ..) (Ev.ite (fun _ => Ev.bind (sAreTeams_ev l hs) (Ev.neg ha (Ev.now _))) (fun _ => Ev.now _))
theorem iWins_l0 (l : List Tm) (hs : Small l) : ∀ (d n : Nat) (a : Int), n + d = l.length → Ev (fun k => impl_TotalWins.l0 k a l (l.length : Int) (n : Int)) (winsT l d n a) := by
  have hl := hs.1
  intro d
  induction d with
  | zero =>
    intro n a hd
    exact Ev.step (fun k => impl_TotalWins.l0.eq_2 ..) (Ev.neg (by omega) (Ev.now _))
  | succ d ih =>
    intro n a hd
    refine Ev.step (fun k => impl_TotalWins.l0.eq_2 ..) (Ev.pos (by omega) (Ev.pos (by omega) (Ev.pos (by omega) ?_)))
    simp only [w64s (show n < 4611686018427387904 by omega)]
    exact ih (n + 1) _ (by omega)
theorem iTotalWins_ev (l : List Tm) (hs : Small l) : Ev (fun k => impl_TotalWins.f k l) (sumT l) := by
  unfold impl_TotalWins.f sumT
  refine Ev.bind (iAreTeams_ev l hs) ?_
  by_cases ha : areT l = true
  · rw [if_pos ha]
    exact Ev.pos ha (iWins_l0 l hs l.length 0 0 (by omega))
  · rw [if_neg ha]
    exact Ev.neg ha (Ev.now _)
end Go.Proofs.Ytiimiogpiflkdaa.L
