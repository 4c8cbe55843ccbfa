/- How often a number is in a list: what the printed functions come to, for every list of at most 2^40 numbers. -/
import Derived.Test.YtiimiogpiflkdaaLBase
import Derived.Test.YtiimiogpiflkdaaA15
import Derived.Test.YtiimiogpiflkdaaA18
set_option linter.unusedVariables false
set_option linter.unusedSimpArgs false
namespace Go.Proofs.Ytiimiogpiflkdaa.L
open Go Go.RowKit Go.Proofs.Ytiimiogpiflkdaa.A Go.Proofs.YtiimiogpiflkdaaW.PrintWords

theorem l19Count_l0 (l : List Int) (x : Int) (hl : l.length ≤ 1099511627776) : ∀ (d n c : Nat), n + d = l.length → c ≤ n → Ev (fun k => spec_l19Count.l0 k l x (c : Int) (n : Int)) ((c + (l.drop n).count x : Nat) : Int) := by
  intro d
  induction d with
  | zero =>
    intro n c hd hc
    refine Ev.step (fun k => spec_l19Count.l0.eq_2 ..) ?_
    refine Ev.neg (by omega) (Ev.some_ ?_)
    rw [List.drop_eq_nil_of_le (by omega)]
    simp
  | succ d ih =>
    intro n c hd hc
    refine Ev.step (fun k => spec_l19Count.l0.eq_2 ..) ?_
    refine Ev.pos (by omega) (Ev.pos (by omega) ?_)
    simp only [w64s (show n < 4611686018427387904 by omega), w64s (show c < 4611686018427387904 by omega), rd_at (show n < l.length by omega)]
    rw [List.drop_eq_getElem_cons (show n < l.length by omega), List.count_cons]
    refine Ev.ite (fun h => Ev.cast (ih (n + 1) (c + 1) (by omega) (by omega)) ?_) (fun h => Ev.cast (ih (n + 1) c (by omega) (by omega)) ?_)
    · simp only [h, beq_self_eq_true, if_true]
      omega
    · simp [h]
theorem l19Count_ev (l : List Int) (x : Int) (hl : l.length ≤ 1099511627776) : Ev (fun k => spec_l19Count.f k l x) (l.count x : Int) := by
  unfold spec_l19Count.f
  exact Ev.cast (l19Count_l0 l x hl l.length 0 0 (by omega) (by omega)) (by simp)
theorem times_l0 (l : List Int) (x : Int) (hl : l.length ≤ 1099511627776) : ∀ (d n c : Nat), n + d = l.length → c ≤ n → Ev (fun k => impl_times.l0 k x (c : Int) l (l.length : Int) (n : Int)) ((c + (l.drop n).count x : Nat) : Int) := by
  intro d
  induction d with
  | zero =>
    intro n c hd hc
    refine Ev.step (fun k => impl_times.l0.eq_2 ..) ?_
    refine Ev.neg (by omega) (Ev.some_ ?_)
    rw [List.drop_eq_nil_of_le (by omega)]
    simp
  | succ d ih =>
    intro n c hd hc
    refine Ev.step (fun k => impl_times.l0.eq_2 ..) ?_
    refine Ev.pos (by omega) (Ev.pos (by omega) (Ev.pos (by omega) ?_))
    simp only [w64s (show n < 4611686018427387904 by omega), w64s (show c < 4611686018427387904 by omega), rd_at (show n < l.length by omega)]
    rw [List.drop_eq_getElem_cons (show n < l.length by omega), List.count_cons]
    refine Ev.ite (fun h => Ev.cast (ih (n + 1) (c + 1) (by omega) (by omega)) ?_) (fun h => Ev.cast (ih (n + 1) c (by omega) (by omega)) ?_)
    · simp only [h, beq_self_eq_true, if_true]
      omega
    · simp [h]
theorem times_ev (l : List Int) (x : Int) (hl : l.length ≤ 1099511627776) : Ev (fun k => impl_times.f k l x) (l.count x : Int) := by
  unfold impl_times.f
  exact Ev.cast (times_l0 l x hl l.length 0 0 (by omega) (by omega)) (by simp)
end Go.Proofs.Ytiimiogpiflkdaa.L
