/- Seeds: what the printed SeedOrder functions come to, for every number. -/
import Derived.Test.YtcffappipgapbaaLBase
import Derived.Test.YtcffappipgapbaaA14
import Derived.Test.YtcffappipgapbaaA17
import Derived.Test.YtcffappipgapbaaA12
import Derived.Test.YtcffappipgapbaaA16
set_option linter.unusedVariables false
set_option linter.unusedSimpArgs false
namespace Go.Proofs.Ytcffappipgapbaa.L
open Go Go.RowKit Go.Proofs.Ytcffappipgapbaa.A Go.Proofs.YtcffappipgapbaaW.PrintWords

def seed (n : Int) : List Int := if n = 2 then [1, 2] else if n = 4 then [1, 4, 2, 3] else if n = 8 then [1, 8, 4, 5, 2, 7, 3, 6] else if n = 16 then [1, 16, 8, 9, 4, 13, 5, 12, 2, 15, 7, 10, 3, 14, 6, 11] else []
theorem sSeedOrder_ev (n : Int) : Ev (fun k => spec_SeedOrder.f k n) (seed n) := by
  by_cases h2 : n = 2
  · subst h2
    exact Ev.of (spec_SeedOrder.mono 2) (k := 60) (by decide +kernel)
  by_cases h4 : n = 4
  · subst h4
    exact Ev.of (spec_SeedOrder.mono 4) (k := 60) (by decide +kernel)
  by_cases h8 : n = 8
  · subst h8
    exact Ev.of (spec_SeedOrder.mono 8) (k := 60) (by decide +kernel)
  by_cases h16 : n = 16
  · subst h16
    exact Ev.of (spec_SeedOrder.mono 16) (k := 60) (by decide +kernel)
  refine Ev.step (fun k => spec_SeedOrder.f.eq_2 ..) ?_
  refine Ev.neg h2 (Ev.bnd rfl (Ev.neg h4 (Ev.neg h8 ?_)))
  refine Ev.step (fun k => spec_SeedOrder.j0.eq_2 ..) ?_
  refine Ev.pos (by simpa using h16) (Ev.some_ ?_)
  simp [seed, h2, h4, h8, h16]
def rounds_ (n : Int) : Int := if n = 2 then 1 else if n = 4 then 2 else if n = 8 then 3 else if n = 16 then 4 else 0
theorem sRoundsOf_eq (n : Int) : spec_RoundsOf.f n = some (rounds_ n) := by
  unfold spec_RoundsOf.f rounds_
  repeat (split; rfl)
  rfl
theorem iRoundsOf_eq (n : Int) : impl_RoundsOf.f n = some (rounds_ n) := by
  unfold impl_RoundsOf.f rounds_
  repeat (split; rfl)
  rfl
theorem iSeedOrder_ev (n : Int) : Ev (fun k => impl_SeedOrder.f k n) (seed n) := by
  by_cases h2 : n = 2
  · subst h2
    exact Ev.of (impl_SeedOrder.mono 2) (k := 60) (by decide +kernel)
  by_cases h4 : n = 4
  · subst h4
    exact Ev.of (impl_SeedOrder.mono 4) (k := 60) (by decide +kernel)
  by_cases h8 : n = 8
  · subst h8
    exact Ev.of (impl_SeedOrder.mono 8) (k := 60) (by decide +kernel)
  by_cases h16 : n = 16
  · subst h16
    exact Ev.of (impl_SeedOrder.mono 16) (k := 60) (by decide +kernel)
  unfold impl_SeedOrder.f
  simp only [iRoundsOf_eq, Option.bind_some]
  refine Ev.pos (by simp [rounds_, h2, h4, h8, h16]) (Ev.some_ ?_)
  simp [seed, h2, h4, h8, h16]
theorem seed_length (n : Int) : (seed n).length ≤ 16 := by
  unfold seed
  repeat (split; simp)
  simp
end Go.Proofs.Ytcffappipgapbaa.L
