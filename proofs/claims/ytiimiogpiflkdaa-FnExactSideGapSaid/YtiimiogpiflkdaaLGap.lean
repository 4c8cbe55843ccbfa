/- The gap of sides: what the printed functions come to. -/
import Derived.Test.YtiimiogpiflkdaaLFind
import Derived.Test.YtiimiogpiflkdaaLPair
import Derived.Test.YtiimiogpiflkdaaA34
import Derived.Test.YtiimiogpiflkdaaA35
import Derived.Test.YtiimiogpiflkdaaA38
set_option linter.unusedVariables false
set_option linter.unusedSimpArgs false
namespace Go.Proofs.Ytiimiogpiflkdaa.L
open Go Go.RowKit Go.Proofs.Ytiimiogpiflkdaa.A Go.Proofs.YtiimiogpiflkdaaW.PrintWords
/-- How much more often one was first, at a pair. -/
def gapP (l : List Tm) (p : S46) : Int :=
  if 0 ≤ findT l p.f0 ∧ 0 ≤ findT l p.f1 then mx (wrap64 ((rd_T61 l (findT l p.f0)).f4 - (rd_T61 l (findT l p.f1)).f4)) (wrap64 ((rd_T61 l (findT l p.f1)).f4 - (rd_T61 l (findT l p.f0)).f4)) else -9223372036854775808
def gapF (l : List Tm) (acc : Int) : List S46 → Int
  | [] => acc
  | p :: r => gapF l (if 0 ≤ findT l p.f0 ∧ 0 ≤ findT l p.f1 then mx acc (gapP l p) else acc) r
theorem Max_eq (a b : Int) : spec_Max.f a b = some (mx a b) := by
  unfold spec_Max.f mx
  by_cases h : a < b
  · rw [if_pos h, if_pos h]
  · rw [if_neg h, if_neg h]
theorem sSideGap_l0 (l : List Tm) (r : List S46) (hs : Small l) (hr : r.length ≤ 1099511627776) : ∀ (d n : Nat) (acc : Int), n + d = r.length → Ev (fun k => spec_SideGap.l0 k l r acc (n : Int)) (gapF l acc (r.drop n)) := by
  intro d
  induction d with
  | zero =>
    intro n acc hd
    refine Ev.step (fun k => spec_SideGap.l0.eq_2 ..) ?_
    refine Ev.neg (by omega) (Ev.some_ ?_)
    rw [List.drop_eq_nil_of_le (by omega)]
    rfl
  | succ d ih =>
    intro n acc hd
    refine Ev.step (fun k => spec_SideGap.l0.eq_2 ..) ?_
    refine Ev.pos (by omega) (Ev.pos (by omega) ?_)
    simp only [rdPair (show n < r.length by omega)]
    have h1 := fun acc => ih (n + 1) acc (by omega)
    rw [List.drop_eq_getElem_cons (show n < r.length by omega)]
    generalize r.drop (n + 1) = u at h1 ⊢
    have r0 := findT_range l r[n].f0
    have r1 := findT_range l r[n].f1
    refine Ev.bind (sFindTeam_ev l _ hs.1) (Ev.bind (sFindTeam_ev l _ hs.1) ?_)
    have no : ¬ (0 ≤ findT l r[n].f0 ∧ 0 ≤ findT l r[n].f1) → Ev (fun k => spec_SideGap.j1 k l r acc (n : Int) (findT l r[n].f0) (findT l r[n].f1) false) (gapF l acc (r[n] :: u)) := by
      intro h
      refine Ev.step (fun k => spec_SideGap.j1.eq_2 ..) (Ev.neg (by simp) ?_)
      simp only [w64s (show n < 4611686018427387904 by omega)]
      exact Ev.cast (h1 acc) (by rw [gapF, if_neg h])
    refine Ev.ite (fun h => ?_) (fun h => no (by omega))
    by_cases h2 : findT l r[n].f1 ≥ 0
    · rw [decide_eq_true h2]
      refine Ev.step (fun k => spec_SideGap.j1.eq_2 ..) (Ev.pos rfl (Ev.pos (by omega) (Ev.pos r0.2 (Ev.pos (by omega) (Ev.pos r1.2 ?_)))))
      simp only [Max_eq, Option.bind_some, w64s (show n < 4611686018427387904 by omega)]
      refine Ev.cast (h1 _) ?_
      have h3 : 0 ≤ findT l r[n].f0 ∧ 0 ≤ findT l r[n].f1 := ⟨by omega, by omega⟩
      rw [gapF, if_pos h3, gapP, if_pos h3]
    · rw [decide_eq_false h2]
      exact no (by omega)
theorem sSideGap_ev (l : List Tm) (r : List S46) (hs : Small l) (hr : r.length ≤ 1099511627776) : Ev (fun k => spec_SideGap.f k l r) (gapF l 0 r) := by
  unfold spec_SideGap.f
  exact Ev.cast (sSideGap_l0 l r hs hr r.length 0 0 (by omega)) (by simp)
theorem mx_neg (acc x y : Int) : mx (mx acc (wrap64 (x - y))) (wrap64 (-(wrap64 (x - y)))) = mx acc (mx (wrap64 (x - y)) (wrap64 (y - x))) := by
  have e : wrap64 (-(wrap64 (x - y))) = wrap64 (y - x) := by
    unfold wrap64
    omega
  rw [e]
  generalize wrap64 (x - y) = p
  generalize wrap64 (y - x) = q
  unfold mx
  repeat' split
  all_goals omega
theorem iSideGap_l0 (l : List Tm) (r : List S46) (hs : Small l) (hr : r.length ≤ 1099511627776) : ∀ (d n : Nat) (acc : Int), n + d = r.length → Ev (fun k => impl_SideGap.l0 k l acc r (r.length : Int) (n : Int)) (gapF l acc (r.drop n)) := by
  intro d
  induction d with
  | zero =>
    intro n acc hd
    refine Ev.step (fun k => impl_SideGap.l0.eq_2 ..) ?_
    refine Ev.neg (by omega) (Ev.some_ ?_)
    rw [List.drop_eq_nil_of_le (by omega)]
    rfl
  | succ d ih =>
    intro n acc hd
    refine Ev.step (fun k => impl_SideGap.l0.eq_2 ..) ?_
    refine Ev.pos (by omega) (Ev.pos (by omega) (Ev.pos (by omega) ?_))
    simp only [rdPair (show n < r.length by omega), w64s (show n < 4611686018427387904 by omega)]
    have h1 := fun acc => ih (n + 1) acc (by omega)
    rw [List.drop_eq_getElem_cons (show n < r.length by omega)]
    generalize r.drop (n + 1) = u at h1 ⊢
    have r0 := findT_range l r[n].f0
    have r1 := findT_range l r[n].f1
    refine Ev.bnd (iFindTeam_eq l _) (Ev.bnd (iFindTeam_eq l _) (Ev.ite (fun h => Ev.ite (fun h2 => Ev.pos (by omega) (Ev.pos r0.2 (Ev.pos (by omega) (Ev.pos r1.2 (Ev.cast (h1 _) ?_))))) (fun h2 => Ev.cast (h1 _) ?_)) (fun h => Ev.cast (h1 _) ?_)))
    · have h3 : 0 ≤ findT l r[n].f0 ∧ 0 ≤ findT l r[n].f1 := ⟨by omega, by omega⟩
      rw [gapF, if_pos h3, gapP, if_pos h3, mx_neg]
    · rw [gapF, if_neg (by omega)]
    · rw [gapF, if_neg (by omega)]
theorem iSideGap_ev (l : List Tm) (r : List S46) (hs : Small l) (hr : r.length ≤ 1099511627776) : Ev (fun k => impl_SideGap.f k l r) (gapF l 0 r) := by
  unfold impl_SideGap.f
  exact Ev.cast (iSideGap_l0 l r hs hr r.length 0 0 (by omega)) (by simp)
end Go.Proofs.Ytiimiogpiflkdaa.L
