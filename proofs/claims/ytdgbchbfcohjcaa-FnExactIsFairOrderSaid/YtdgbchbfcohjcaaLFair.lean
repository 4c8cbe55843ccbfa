/- Turns: what the printed IsFairOrder functions come to, for every two lists of at most 2^40 numbers. -/
import Derived.Test.YtdgbchbfcohjcaaLRngS
import Derived.Test.YtdgbchbfcohjcaaLRngI
import Derived.Test.YtdgbchbfcohjcaaLHas
import Derived.Test.YtdgbchbfcohjcaaLCont
import Derived.Test.YtdgbchbfcohjcaaA40
import Derived.Test.YtdgbchbfcohjcaaA41
set_option linter.unusedVariables false
set_option linter.unusedSimpArgs false
namespace Go.Proofs.Ytdgbchbfcohjcaa.L
open Go Go.RowKit Go.Proofs.Ytdgbchbfcohjcaa.A Go.Proofs.YtdgbchbfcohjcaaW.PrintWords

def fairF (a : List Int) (g : Int) : List Int → Bool
  | [] => true
  | x :: t => if x ∈ a then inR (g + 1) (-1) 1 && fairF a (g + 1) t else inR (g - 1) (-1) 1 && fairF a (g - 1) t
theorem sIsFairOrder_l0 (l a : List Int) (hl : l.length ≤ 1099511627776) (ha : a.length ≤ 1099511627776) : ∀ (d n : Nat) (g : Int), n + d = l.length → -1 ≤ g → g ≤ 1 → Ev (fun k => spec_IsFairOrder.l0 k l a g (n : Int)) (fairF a g (l.drop n)) := by
  intro d
  induction d with
  | zero =>
    intro n g hd h0 h1
    refine Ev.step (fun k => spec_IsFairOrder.l0.eq_2 ..) ?_
    refine Ev.neg (by omega) (Ev.some_ ?_)
    rw [List.drop_eq_nil_of_le (by omega)]
    rfl
  | succ d ih =>
    intro n g hd h0 h1
    refine Ev.step (fun k => spec_IsFairOrder.l0.eq_2 ..) ?_
    refine Ev.pos (by omega) (Ev.pos (by omega) ?_)
    simp only [w64s (show n < 4611686018427387904 by omega), rd_at (show n < l.length by omega), l1In_eq, Option.bind_some, w64 (show -9223372036854775808 ≤ g + 1 by omega) (show g + 1 ≤ 9223372036854775807 by omega), w64 (show -9223372036854775808 ≤ g - 1 by omega) (show g - 1 ≤ 9223372036854775807 by omega)]
    have h1 := fun g h0 h1 => ih (n + 1) g (by omega) h0 h1
    rw [List.drop_eq_getElem_cons (show n < l.length by omega)]
    generalize l.drop (n + 1) = u at h1 ⊢
    refine Ev.bind (l4Has_ev a l[n] ha) (Ev.ite (fun h => ?_) (fun h => ?_))
    · have hm : l[n] ∈ a := by simpa using h
      refine Ev.ite (fun h2 => Ev.cast (h1 (g + 1) (inR_iff.1 h2).1 (inR_iff.1 h2).2) ?_) (fun h2 => Ev.some_ ?_)
      · simp [fairF, hm, h2]
      · simp [fairF, hm, h2]
    · have hm : ¬ l[n] ∈ a := by simpa using h
      refine Ev.ite (fun h2 => Ev.cast (h1 (g - 1) (inR_iff.1 h2).1 (inR_iff.1 h2).2) ?_) (fun h2 => Ev.some_ ?_)
      · simp [fairF, hm, h2]
      · simp [fairF, hm, h2]
theorem sIsFairOrder_ev (l a : List Int) (hl : l.length ≤ 1099511627776) (ha : a.length ≤ 1099511627776) : Ev (fun k => spec_IsFairOrder.f k l a) (fairF a 0 l) := by
  unfold spec_IsFairOrder.f
  exact Ev.cast (sIsFairOrder_l0 l a hl ha l.length 0 0 (by omega) (by omega) (by omega)) (by simp)
theorem iIsFairOrder_l0 (l a : List Int) (hl : l.length ≤ 1099511627776) (ha : a.length ≤ 1099511627776) : ∀ (d n : Nat) (g : Int), n + d = l.length → -1 ≤ g → g ≤ 1 → Ev (fun k => impl_IsFairOrder.l0 k a g l (l.length : Int) (n : Int)) (fairF a g (l.drop n)) := by
  intro d
  induction d with
  | zero =>
    intro n g hd h0 h1
    refine Ev.step (fun k => impl_IsFairOrder.l0.eq_2 ..) ?_
    refine Ev.neg (by omega) (Ev.some_ ?_)
    rw [List.drop_eq_nil_of_le (by omega)]
    rfl
  | succ d ih =>
    intro n g hd h0 h1
    refine Ev.step (fun k => impl_IsFairOrder.l0.eq_2 ..) ?_
    refine Ev.pos (by omega) (Ev.pos (by omega) (Ev.pos (by omega) ?_))
    simp only [w64s (show n < 4611686018427387904 by omega), rd_at (show n < l.length by omega), InRange_eq, Option.bind_some, w64 (show -9223372036854775808 ≤ g + 1 by omega) (show g + 1 ≤ 9223372036854775807 by omega), w64 (show -9223372036854775808 ≤ g - 1 by omega) (show g - 1 ≤ 9223372036854775807 by omega)]
    have h1 := fun g h0 h1 => ih (n + 1) g (by omega) h0 h1
    rw [List.drop_eq_getElem_cons (show n < l.length by omega)]
    generalize l.drop (n + 1) = u at h1 ⊢
    refine Ev.bind (Contains_ev a l[n] ha) (Ev.ite (fun h => ?_) (fun h => ?_))
    · have hm : l[n] ∈ a := by simpa using h
      refine Ev.ite (fun h2 => Ev.cast (h1 (g + 1) (inR_iff.1 h2).1 (inR_iff.1 h2).2) ?_) (fun h2 => Ev.some_ ?_)
      · simp [fairF, hm, h2]
      · simp [fairF, hm, h2]
    · have hm : ¬ l[n] ∈ a := by simpa using h
      refine Ev.ite (fun h2 => Ev.cast (h1 (g - 1) (inR_iff.1 h2).1 (inR_iff.1 h2).2) ?_) (fun h2 => Ev.some_ ?_)
      · simp [fairF, hm, h2]
      · simp [fairF, hm, h2]
theorem iIsFairOrder_ev (l a : List Int) (hl : l.length ≤ 1099511627776) (ha : a.length ≤ 1099511627776) : Ev (fun k => impl_IsFairOrder.f k l a) (fairF a 0 l) := by
  unfold impl_IsFairOrder.f
  exact Ev.cast (iIsFairOrder_l0 l a hl ha l.length 0 0 (by omega) (by omega) (by omega)) (by simp)
end Go.Proofs.Ytdgbchbfcohjcaa.L
