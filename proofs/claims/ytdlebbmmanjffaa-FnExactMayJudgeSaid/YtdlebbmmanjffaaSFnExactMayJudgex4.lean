/- What the row FnExactMayJudge rests on, put together: LFind, LCont, LHas, A4, LRngS, A9, LRngI, A3, A8, A13, A5, A10, LJudge, LMayJ, LXFnExactMayJudge. No condition. -/
import Derived.Test.YtdlebbmmanjffaaSFnExactMayJudgex3
import Derived.Test.YtdlebbmmanjffaaSFnExactMayJudgex0
import Derived.Test.YtdlebbmmanjffaaSFnExactMayJudgex1
section
set_option linter.unusedVariables false
set_option linter.unusedSimpArgs false
namespace Go.Proofs.Ytdlebbmmanjffaa.L
open Go Go.RowKit Go.Proofs.Ytdlebbmmanjffaa.A Go.Proofs.YtdlebbmmanjffaaW.PrintWords
def findT (l : List Tm) (id : Int) : Int := fidx (fun t => decide (t.f0 = id)) l
theorem iFindTeam_eq (l : List Tm) (id : Int) : impl_FindTeam.f l id = some (findT l id) := rfl
theorem fidx_cons {α : Type} (p : α → Bool) (x : α) (l : List α) : fidx p (x :: l) = if p x = true then 0 else if fidx p l < 0 then -1 else fidx p l + 1 := by
  unfold fidx
  rw [List.findIdx?_cons]
  by_cases h : p x = true
  · simp [h]
  · rw [if_neg h, if_neg h]
    cases l.findIdx? p with
    | none => simp
    | some i =>
      simp only [Option.map_some]
      rw [if_neg (by omega)]
      omega
theorem fidx_nil {α : Type} (p : α → Bool) : fidx p ([] : List α) = -1 := rfl
theorem fidx_range {α : Type} (p : α → Bool) : ∀ l : List α, -1 ≤ fidx p l ∧ fidx p l < l.length
  | [] => by simp [fidx_nil]
  | x :: l => by
    have := fidx_range p l
    rw [fidx_cons]
    simp only [List.length_cons]
    split
    · omega
    · split <;> omega
theorem sFindTeam_l0 (l : List Tm) (id : Int) (hl : l.length ≤ 1099511627776) : ∀ (d n : Nat), n + d = l.length → Ev (fun k => spec_FindTeam.l0 k l id (n : Int)) (if findT (l.drop n) id < 0 then -1 else n + findT (l.drop n) id) := by
  intro d
  induction d with
  | zero =>
    intro n hd
    refine Ev.step (fun k => spec_FindTeam.l0.eq_2 ..) ?_
    refine Ev.neg (by omega) (Ev.some_ ?_)
    rw [List.drop_eq_nil_of_le (by omega)]
    simp [findT, fidx_nil]
  | succ d ih =>
    intro n hd
    refine Ev.step (fun k => spec_FindTeam.l0.eq_2 ..) ?_
    refine Ev.pos (by omega) (Ev.pos (by omega) ?_)
    simp only [w64s (show n < 4611686018427387904 by omega), rdTm (show n < l.length by omega)]
    have h1 := ih (n + 1) (by omega)
    rw [List.drop_eq_getElem_cons (show n < l.length by omega)]
    generalize l.drop (n + 1) = u at h1 ⊢
    have hr := fidx_range (fun t : Tm => decide (t.f0 = id)) u
    refine Ev.ite (fun h => Ev.some_ ?_) (fun h => Ev.cast h1 ?_)
    · simp [findT, fidx_cons, h]
    · have e : findT (l[n] :: u) id = if findT u id < 0 then -1 else findT u id + 1 := by
        unfold findT
        rw [fidx_cons, if_neg (by simpa using h)]
      rw [e]
      have hr' : -1 ≤ findT u id := hr.1
      by_cases hu : findT u id < 0
      · simp [hu]
      · have h2 : ¬ findT u id + 1 < 0 := by omega
        rw [if_neg hu, if_neg hu, if_neg h2]
        omega
theorem sFindTeam_ev (l : List Tm) (id : Int) (hl : l.length ≤ 1099511627776) : Ev (fun k => spec_FindTeam.f k l id) (findT l id) := by
  unfold spec_FindTeam.f
  refine Ev.cast (sFindTeam_l0 l id hl l.length 0 (by omega)) ?_
  have hr := fidx_range (fun t : Tm => decide (t.f0 = id)) l
  simp only [List.drop_zero]
  split
  · unfold findT at *
    omega
  · omega
theorem findT_range (l : List Tm) (id : Int) : -1 ≤ findT l id ∧ findT l id < l.length := fidx_range _ l
end Go.Proofs.Ytdlebbmmanjffaa.L
end

section
set_option linter.unusedVariables false
set_option linter.unusedSimpArgs false
namespace Go.Proofs.Ytdlebbmmanjffaa.L
open Go Go.RowKit Go.Proofs.Ytdlebbmmanjffaa.A Go.Proofs.YtdlebbmmanjffaaW.PrintWords
theorem Index_l0 (l : List Int) (x : Int) (hl : l.length ≤ 1099511627776) : ∀ (d n : Nat), n + d = l.length → Ev (fun k => slices_Index_int_int.l0 k l x (l.length : Int) (n : Int)) (if x ∈ l.drop n then ((n + (l.drop n).idxOf x : Nat) : Int) else -1) := by
  intro d
  induction d with
  | zero =>
    intro n hd
    refine Ev.step (fun k => slices_Index_int_int.l0.eq_2 ..) ?_
    refine Ev.neg (by omega) (Ev.some_ ?_)
    rw [List.drop_eq_nil_of_le (by omega)]
    simp
  | succ d ih =>
    intro n hd
    refine Ev.step (fun k => slices_Index_int_int.l0.eq_2 ..) ?_
    refine Ev.pos (by omega) (Ev.pos (by omega) (Ev.pos (by omega) ?_))
    simp only [w64s (show n < 4611686018427387904 by omega), rd_at (show n < l.length by omega)]
    have h1 := ih (n + 1) (by omega)
    rw [List.drop_eq_getElem_cons (show n < l.length by omega)]
    generalize l.drop (n + 1) = u at h1 ⊢
    refine Ev.ite (fun h => Ev.some_ ?_) (fun h => Ev.cast h1 ?_)
    · simp [h]
    · have h' : ¬ l[n] = x := fun e => h e.symm
      simp only [List.mem_cons, h, false_or, List.idxOf_cons, beq_eq_false_iff_ne.2 h']
      split
      · simp; omega
      · rfl
def idx (l : List Int) (x : Int) : Int := if x ∈ l then (l.idxOf x : Int) else -1
theorem Index_ev (l : List Int) (x : Int) (hl : l.length ≤ 1099511627776) : Ev (fun k => slices_Index_int_int.f k l x) (idx l x) := by
  unfold slices_Index_int_int.f
  refine Ev.cast (Index_l0 l x hl l.length 0 (by omega)) ?_
  simp [idx]
theorem Contains_ev (l : List Int) (x : Int) (hl : l.length ≤ 1099511627776) : Ev (fun k => slices_Contains_int_int.f k l x) (decide (x ∈ l)) := by
  unfold slices_Contains_int_int.f
  refine Ev.bind (Index_ev l x hl) (Ev.some_ ?_)
  unfold idx
  by_cases h : x ∈ l
  · simp [h]
  · simp [h]
end Go.Proofs.Ytdlebbmmanjffaa.L
end

section
set_option linter.unusedVariables false
set_option linter.unusedSimpArgs false
namespace Go.Proofs.Ytdlebbmmanjffaa.L
open Go Go.RowKit Go.Proofs.Ytdlebbmmanjffaa.A Go.Proofs.YtdlebbmmanjffaaW.PrintWords
theorem l4Has_l0 (l : List Int) (x : Int) (hl : l.length ≤ 1099511627776) : ∀ (d n : Nat), n + d = l.length → Ev (fun k => spec_l4Has.l0 k l x (n : Int)) (decide (x ∈ l.drop n)) := by
  intro d
  induction d with
  | zero =>
    intro n hd
    refine Ev.step (fun k => spec_l4Has.l0.eq_2 ..) ?_
    refine Ev.neg (by omega) (Ev.some_ ?_)
    rw [List.drop_eq_nil_of_le (by omega)]
    simp
  | succ d ih =>
    intro n hd
    refine Ev.step (fun k => spec_l4Has.l0.eq_2 ..) ?_
    refine Ev.pos (by omega) (Ev.pos (by omega) ?_)
    simp only [w64s (show n < 4611686018427387904 by omega), rd_at (show n < l.length by omega)]
    have h1 := ih (n + 1) (by omega)
    rw [List.drop_eq_getElem_cons (show n < l.length by omega)]
    generalize l.drop (n + 1) = u at h1 ⊢
    refine Ev.ite (fun h => Ev.some_ ?_) (fun h => Ev.cast h1 ?_)
    · simp [h]
    · have h' : ¬ x = l[n] := fun e => h e.symm
      simp [h']
theorem l4Has_ev (l : List Int) (x : Int) (hl : l.length ≤ 1099511627776) : Ev (fun k => spec_l4Has.f k l x) (decide (x ∈ l)) := by
  unfold spec_l4Has.f
  exact Ev.cast (l4Has_l0 l x hl l.length 0 (by omega)) (by simp)
end Go.Proofs.Ytdlebbmmanjffaa.L
end

section
namespace Go.Proofs.Ytdlebbmmanjffaa.A
open Go.RowKit Go.Proofs.YtdlebbmmanjffaaW.PrintWords Go.Proofs.YtdlebbmmanjffaaW.PrintLast Go.Proofs.YtdlebbmmanjffaaW.PrintMore
attribute [local go_sem] max2_int min2_int max_two min_two max_three min_three max_four min_four   -- for this text's walks alone
set_option linter.unusedVariables false
set_option linter.unusedSimpArgs false
def spec_l1In.f (a0 : Int) (a1 : Int) (a2 : Int) : Option (Bool) := if a0 ≥ a1 then (some (decide (a0 ≤ a2))) else (some false)
end Go.Proofs.Ytdlebbmmanjffaa.A
end

section
set_option linter.unusedVariables false
set_option linter.unusedSimpArgs false
namespace Go.Proofs.Ytdlebbmmanjffaa.L
open Go Go.RowKit Go.Proofs.Ytdlebbmmanjffaa.A Go.Proofs.YtdlebbmmanjffaaW.PrintWords
end Go.Proofs.Ytdlebbmmanjffaa.L
end

section
namespace Go.Proofs.Ytdlebbmmanjffaa.A
open Go.RowKit Go.Proofs.YtdlebbmmanjffaaW.PrintWords Go.Proofs.YtdlebbmmanjffaaW.PrintLast Go.Proofs.YtdlebbmmanjffaaW.PrintMore
attribute [local go_sem] max2_int min2_int max_two min_two max_three min_three max_four min_four   -- for this text's walks alone
set_option linter.unusedVariables false
set_option linter.unusedSimpArgs false
def impl_InRange.f (a0 : Int) (a1 : Int) (a2 : Int) : Option (Bool) := if a1 ≤ a0 then (some (decide (a0 ≤ a2))) else (some false)
end Go.Proofs.Ytdlebbmmanjffaa.A
end

section
set_option linter.unusedVariables false
set_option linter.unusedSimpArgs false
namespace Go.Proofs.Ytdlebbmmanjffaa.L
open Go Go.RowKit Go.Proofs.Ytdlebbmmanjffaa.A Go.Proofs.YtdlebbmmanjffaaW.PrintWords
end Go.Proofs.Ytdlebbmmanjffaa.L
end

section
namespace Go.Proofs.Ytdlebbmmanjffaa.A
open Go.RowKit Go.Proofs.YtdlebbmmanjffaaW.PrintWords Go.Proofs.YtdlebbmmanjffaaW.PrintLast Go.Proofs.YtdlebbmmanjffaaW.PrintMore
attribute [local go_sem] max2_int min2_int max_two min_two max_three min_three max_four min_four   -- for this text's walks alone
set_option linter.unusedVariables false
set_option linter.unusedSimpArgs false
def laws_szJudgeS.l0 : Nat → List (S38) → Int → Int → Option (Int)
  | 0, _, _, _ => none
  | k + 1, x0, x1, x5 => if x5 < (x0.length : Int) then (if 0 ≤ x5 then ((laws_szJudge.f ((rd_T38 x0 x5).f0) ((rd_T38 x0 x5).f1) ((rd_T38 x0 x5).f2) x1).bind fun t104 => (if t104 < 0 then (some (-1)) else (laws_szJudgeS.l0 k x0 t104 (wrap64 (x5 + 1))))) else (none)) else (some x1)
def laws_szJudgeS.f (k : Nat) (l0 : List (S38)) (a1 : Int) : Option (Int) := if (wrap64 (a1 - (l0.length : Int))) < 0 then (some (-1)) else (laws_szJudgeS.l0 k l0 (wrap64 (a1 - (l0.length : Int))) 0)
end Go.Proofs.Ytdlebbmmanjffaa.A
end

section
namespace Go.Proofs.Ytdlebbmmanjffaa.A
open Go.RowKit Go.Proofs.YtdlebbmmanjffaaW.PrintWords Go.Proofs.YtdlebbmmanjffaaW.PrintLast Go.Proofs.YtdlebbmmanjffaaW.PrintMore
attribute [local go_sem] max2_int min2_int max_two min_two max_three min_three max_four min_four   -- for this text's walks alone
set_option linter.unusedVariables false
set_option linter.unusedSimpArgs false
def laws_toJudgeS.l0 : Nat → List (S38) → List (S46) → Int → Option ((List (S46)))
  | 0, _, _, _ => none
  | k + 1, x0, x3, x4 => if x4 < (x0.length : Int) then (if 0 ≤ x4 then ((laws_toJudge.f k ((rd_T38 x0 x4).f0) ((rd_T38 x0 x4).f1) ((rd_T38 x0 x4).f2)).bind fun bt134 => (if x4 < (x3.length : Int) then (laws_toJudgeS.l0 k x0 (x3.set (x4 : Int).toNat (⟨bt134.1, bt134.2.1, bt134.2.2⟩ : S46)) (wrap64 (x4 + 1))) else (none))) else (none)) else (some x3)
def laws_toJudgeS.f (k : Nat) (l0 : List (S38)) : Option ((List (S46))) := if 0 ≤ (l0.length : Int) then (if ((l0.length : Int) : Int).toNat ≤ 7036874417766 then (laws_toJudgeS.l0 k l0 (List.replicate ((l0.length : Int) : Int).toNat z46) 0) else (none)) else (none)
end Go.Proofs.Ytdlebbmmanjffaa.A
end

section
namespace Go.Proofs.Ytdlebbmmanjffaa.A
open Go.RowKit Go.Proofs.YtdlebbmmanjffaaW.PrintWords Go.Proofs.YtdlebbmmanjffaaW.PrintLast Go.Proofs.YtdlebbmmanjffaaW.PrintMore
attribute [local go_sem] max2_int min2_int max_two min_two max_three min_three max_four min_four   -- for this text's walks alone
set_option linter.unusedVariables false
set_option linter.unusedSimpArgs false
def laws_eqJudgeS.l0 : Nat → List (S46) → List (S46) → Int → Option (Bool)
  | 0, _, _, _ => none
  | k + 1, x0, x1, x5 => if x5 < (x0.length : Int) then (if 0 ≤ x5 then (if x5 < (x1.length : Int) then ((laws_eqJudge.f k ((rd_T46 x0 x5).f0) ((rd_T46 x0 x5).f1) ((rd_T46 x0 x5).f2) ((rd_T46 x1 x5).f0) ((rd_T46 x1 x5).f1) ((rd_T46 x1 x5).f2)).bind fun t156 => (if t156 = true then (laws_eqJudgeS.l0 k x0 x1 (wrap64 (x5 + 1))) else (some false))) else (none)) else (none)) else (some true)
def laws_eqJudgeS.f (k : Nat) (l0 : List (S46)) (l1 : List (S46)) : Option (Bool) := if (l0.length : Int) = (l1.length : Int) then (laws_eqJudgeS.l0 k l0 l1 0) else (some false)
def laws_eqJudgeS.T6 : Bool × List (List Nat × List Nat) := (true, [([], []), ([], []), ([0, 1], [0, 1]), ([2], [2]), ([], []), ([], []), ([4, 5], [4, 5]), ([6], [6]), ([3, 7], [3, 7]), ([8], [8])])
def laws_eqJudgeS.B6 : List Nat := [0, 0, 3, 7, 0, 0, 48, 112, 255, 511]
end Go.Proofs.Ytdlebbmmanjffaa.A
end

section
namespace Go.Proofs.Ytdlebbmmanjffaa.A
open Go.RowKit Go.Proofs.YtdlebbmmanjffaaW.PrintWords Go.Proofs.YtdlebbmmanjffaaW.PrintLast Go.Proofs.YtdlebbmmanjffaaW.PrintMore
attribute [local go_sem] max2_int min2_int max_two min_two max_three min_three max_four min_four   -- for this text's walks alone
set_option linter.unusedVariables false
set_option linter.unusedSimpArgs false
mutual
def spec_AreJudges.l0 : Nat → List (S46) → Int → Option (Bool)
  | 0, _, _ => none
  | k + 1, x0, x3 => if x3 < (x0.length : Int) then (if 0 ≤ x3 then ((spec_l1In.f ((rd_T46 x0 x3).f0) 1 99).bind fun t106 => (if t106 = true then ((spec_l1In.f ((rd_T46 x0 x3).f1) 1 99).bind fun t108 => (if t108 = true then (if x3 > 0 then (if 0 ≤ (wrap64 (x3 - 1)) then (if (wrap64 (x3 - 1)) < (x0.length : Int) then (spec_AreJudges.j1 k x0 x3 (decide (((rd_T46 x0 (wrap64 (x3 - 1))).f0) ≥ ((rd_T46 x0 x3).f0)))) else (none)) else (none)) else (spec_AreJudges.j1 k x0 x3 false)) else (spec_AreJudges.j1 k x0 x3 true))) else (spec_AreJudges.j1 k x0 x3 true))) else (none)) else (some (decide ((x0.length : Int) ≤ 10)))
def spec_AreJudges.j1 : Nat → List (S46) → Int → Bool → Option (Bool)
  | 0, _, _, _ => none
  | k + 1, x0, x3, x44 => if x44 = true then (some false) else (spec_AreJudges.l1 k x0 x3 0)
def spec_AreJudges.l1 : Nat → List (S46) → Int → Int → Option (Bool)
  | 0, _, _, _ => none
  | k + 1, x0, x3, x4 => if 0 ≤ x3 then (if x3 < (x0.length : Int) then (if x4 < (((rd_T46 x0 x3).f2).length : Int) then (if 0 ≤ x4 then ((spec_l1In.f (rd ((rd_T46 x0 x3).f2) x4) 1 99).bind fun t114 => (if t114 = true then (if x4 > 0 then (if 0 ≤ (wrap64 (x4 - 1)) then (if (wrap64 (x4 - 1)) < (((rd_T46 x0 x3).f2).length : Int) then (if (rd ((rd_T46 x0 x3).f2) (wrap64 (x4 - 1))) ≥ (rd ((rd_T46 x0 x3).f2) x4) then (some false) else (spec_AreJudges.l1 k x0 x3 (wrap64 (x4 + 1)))) else (none)) else (none)) else (spec_AreJudges.l1 k x0 x3 (wrap64 (x4 + 1)))) else (some false))) else (none)) else (spec_AreJudges.l0 k x0 (wrap64 (x3 + 1)))) else (none)) else (none)
end
def spec_AreJudges.f (k : Nat) (l0 : List (S46)) : Option (Bool) := spec_AreJudges.l0 k l0 0
def spec_AreJudges.T4 : Bool × List (List Nat × List Nat) := (true, [([], []), ([], []), ([0, 1], [0, 1]), ([2], [2]), ([3], [3]), ([4], [4]), ([5], [5]), ([6, 5], [6]), ([7], [7]), ([7], [7]), ([8, 9, 7], [7, 8, 9]), ([10, 7], [7, 10]), ([11, 7], [7, 11]), ([12, 7, 7], [7, 12]), ([13, 7], [7, 13]), ([7, 14], [7, 14]), ([15, 13], [15]), ([16], [16]), ([17, 16], [16, 17]), ([18, 16, 16], [16, 18]), ([19], [19]), ([19], [19]), ([21, 19], [19, 21]), ([20, 22, 19], [19, 20, 22]), ([23, 19], [19, 23]), ([24, 19], [19, 24]), ([19], [19]), ([19], [19]), ([26, 27, 19], [19, 26, 27]), ([28, 19], [19, 28]), ([29, 19], [19, 29]), ([25, 30, 19], [19, 25, 30]), ([19, 31, 16], [16, 19, 31]), ([16, 32], [16, 32])])
def spec_AreJudges.B4 : List Nat := [0, 0, 3, 7, 15, 31, 63, 127, 255, 255, 1023, 2047, 4095, 8191, 16383, 32767, 65535, 131071, 262143, 524287, 1048575, 1048575, 3145727, 8388607, 16777215, 33554431, 1048575, 1048575, 202375167, 470810623, 1007681535, 2147483647, 4294967295, 8589934591]
def spec_AreJudges.T9 : Bool × List (List Nat × List Nat) := (true, [([], []), ([], []), ([0, 1], [0, 1]), ([2], [2]), ([3], [3]), ([], []), ([4, 5], [4, 5]), ([6], [6]), ([7], [7]), ([8], [8]), ([9, 8], [9]), ([10], [10]), ([11, 10], [10, 11]), ([12, 10, 10], [10, 12]), ([13], [13]), ([13], [13]), ([14, 15, 13], [13, 14, 15]), ([16, 13], [13, 16]), ([17, 13], [13, 17]), ([13], [13]), ([19, 13], [13, 19]), ([18, 20, 13], [13, 18, 20]), ([21, 13], [13, 21]), ([13], [13]), ([13], [13]), ([23, 24, 13], [13, 23, 24]), ([25, 13], [13, 25]), ([26, 13], [13, 26]), ([13], [13]), ([27, 28, 13], [13, 27, 28]), ([29, 13], [13, 29]), ([22, 30, 13], [13, 22, 30]), ([13, 31, 10], [10, 13, 31]), ([10, 32], [10, 32])])
def spec_AreJudges.B9 : List Nat := [0, 0, 3, 7, 15, 0, 63, 127, 255, 511, 1023, 2047, 4095, 8191, 16383, 16383, 65535, 131071, 262143, 16383, 540671, 2097151, 4194303, 16383, 16383, 25182207, 58736639, 125845503, 16383, 528498687, 1065369599, 2147483647, 4294967295, 8589934591]
end Go.Proofs.Ytdlebbmmanjffaa.A
end

section
namespace Go.Proofs.Ytdlebbmmanjffaa.A
open Go.RowKit Go.Proofs.YtdlebbmmanjffaaW.PrintWords Go.Proofs.YtdlebbmmanjffaaW.PrintLast Go.Proofs.YtdlebbmmanjffaaW.PrintMore
attribute [local go_sem] max2_int min2_int max_two min_two max_three min_three max_four min_four   -- for this text's walks alone
set_option linter.unusedVariables false
set_option linter.unusedSimpArgs false
mutual
def impl_AreJudges.l0 : Nat → List (S46) → List (S46) → Int → Int → Option (Bool)
  | 0, _, _, _, _ => none
  | k + 1, x0, x10, x11, x12 => if x12 < x11 then (if 0 ≤ x12 then (if x12 < (x10.length : Int) then ((impl_InRange.f ((rd_T46 x10 x12).f0) 1 99).bind fun t142 => (if t142 = true then (if x12 > 0 then (if 0 ≤ (wrap64 (x12 - 1)) then (if (wrap64 (x12 - 1)) < (x0.length : Int) then (if ((rd_T46 x10 x12).f0) ≤ ((rd_T46 x0 (wrap64 (x12 - 1))).f0) then (impl_AreJudges.j1 k x0 x10 x11 x12 true ((rd_T46 x10 x12).f0) ((rd_T46 x10 x12).f1) ((rd_T46 x10 x12).f2)) else ((impl_InRange.f ((rd_T46 x10 x12).f1) 1 99).bind fun t144 => (impl_AreJudges.j1 k x0 x10 x11 x12 (!t144) ((rd_T46 x10 x12).f0) ((rd_T46 x10 x12).f1) ((rd_T46 x10 x12).f2)))) else (none)) else (none)) else ((impl_InRange.f ((rd_T46 x10 x12).f1) 1 99).bind fun t145 => (impl_AreJudges.j1 k x0 x10 x11 x12 (!t145) ((rd_T46 x10 x12).f0) ((rd_T46 x10 x12).f1) ((rd_T46 x10 x12).f2)))) else (impl_AreJudges.j1 k x0 x10 x11 x12 true ((rd_T46 x10 x12).f0) ((rd_T46 x10 x12).f1) ((rd_T46 x10 x12).f2)))) else (none)) else (none)) else (some true)
def impl_AreJudges.j1 : Nat → List (S46) → List (S46) → Int → Int → Bool → Int → Int → List Int → Option (Bool)
  | 0, _, _, _, _, _, _, _, _ => none
  | k + 1, x0, x10, x11, x12, x41, x142000, x142001, x142002 => if x41 = true then (some false) else (impl_AreJudges.l1 k x0 x10 x11 x12 x142002 (x142002.length : Int) 0 x142000 x142001 x142002)
def impl_AreJudges.l1 : Nat → List (S46) → List (S46) → Int → Int → List Int → Int → Int → Int → Int → List Int → Option (Bool)
  | 0, _, _, _, _, _, _, _, _, _, _ => none
  | k + 1, x0, x10, x11, x12, x43, x44, x45, x142000, x142001, x142002 => if x45 < x44 then (if 0 ≤ x45 then (if x45 < (x43.length : Int) then ((impl_InRange.f (rd x43 x45) 1 99).bind fun t147 => (if t147 = true then (if x45 > 0 then (if 0 ≤ (wrap64 (x45 - 1)) then (if (wrap64 (x45 - 1)) < (x142002.length : Int) then (if (rd x43 x45) ≤ (rd x142002 (wrap64 (x45 - 1))) then (some false) else (impl_AreJudges.l1 k x0 x10 x11 x12 x43 x44 (wrap64 (x45 + 1)) x142000 x142001 x142002)) else (none)) else (none)) else (impl_AreJudges.l1 k x0 x10 x11 x12 x43 x44 (wrap64 (x45 + 1)) x142000 x142001 x142002)) else (some false))) else (none)) else (none)) else (impl_AreJudges.l0 k x0 x10 x11 (wrap64 (x12 + 1)))
end
def impl_AreJudges.f (k : Nat) (l0 : List (S46)) : Option (Bool) := if (l0.length : Int) > 10 then (some false) else (impl_AreJudges.l0 k l0 l0 (l0.length : Int) 0)
end Go.Proofs.Ytdlebbmmanjffaa.A
end

section
set_option linter.unusedVariables false
set_option linter.unusedSimpArgs false
namespace Go.Proofs.Ytdlebbmmanjffaa.L
open Go Go.RowKit Go.Proofs.Ytdlebbmmanjffaa.A Go.Proofs.YtdlebbmmanjffaaW.PrintWords
abbrev Jg := S46
def cvJg (x : S38) : Jg := ⟨x.f0, x.f1, x.f2⟩
def SmallJ (l : List Jg) : Prop := l.length ≤ 1099511627776 ∧ ∀ x ∈ l, x.f2.length ≤ 1099511627776
theorem szIntJ_eq (l : List Int) (left : Int) (h0 : 0 ≤ left) (h1 : left ≤ 1048576) (hl : l.length ≤ 9223372036854775807) : laws_szIntS.f l left = some (if left - l.length < 0 then -1 else left - l.length) := by
  unfold laws_szIntS.f
  rw [w64 (by omega) (by omega)]
  split <;> rfl
theorem szJudge_eq (a b : Int) (l : List Int) (left : Int) (h0 : 0 ≤ left) (h1 : left ≤ 1048576) (hl : l.length ≤ 9223372036854775807) : laws_szJudge.f a b l left = some (if left - l.length < 0 then -1 else left - l.length) := by
  unfold laws_szJudge.f
  rw [szIntJ_eq l left h0 h1 hl]
  simp only [Option.bind_some]
  by_cases h : left - (l.length : Int) < 0
  · rw [if_pos h, if_pos (by omega)]
  · rw [if_neg h, if_neg h]
theorem toJudge_ev (a b : Int) (l : List Int) (h : l.length ≤ 1099511627776) : Ev (fun k => laws_toJudge.f k a b l) (a, b, l) := by
  unfold laws_toJudge.f
  exact Ev.bind (toIntS_ev l h) (Ev.now _)
theorem eqJudge_ev (a b : Int) (l : List Int) (h : l.length ≤ 1099511627776) : Ev (fun k => laws_eqJudge.f k a b l a b l) true := by
  unfold laws_eqJudge.f
  exact Ev.pos rfl (Ev.pos rfl (Ev.bind (eqIntS_ev _ _ h) (Ev.pos (by simp) (Ev.now _))))
def seenF (p : Int) : List Int → Bool
  | [] => true
  | x :: t => inR x 1 99 && decide (p < x) && seenF x t
def judgesF (p : Int) : List Jg → Bool
  | [] => true
  | j :: l => inR j.f0 1 99 && decide (p < j.f0) && inR j.f1 1 99 && seenF 0 j.f2 && judgesF j.f0 l
def okJudges (l : List Jg) : Bool := judgesF 0 l && decide ((l.length : Int) ≤ 10)
end Go.Proofs.Ytdlebbmmanjffaa.L
end

section
set_option linter.unusedVariables false
set_option linter.unusedSimpArgs false
namespace Go.Proofs.Ytdlebbmmanjffaa.L
open Go Go.RowKit Go.Proofs.Ytdlebbmmanjffaa.A Go.Proofs.YtdlebbmmanjffaaW.PrintWords
def mayOne (l : List Tm) (club : Int) (seen : List Int) (id : Int) : Bool := decide (0 ≤ findT l id ∧ ¬ (rd_T78 l (findT l id)).f1 = club ∧ ¬ id ∈ seen)
def mayJ (l : List Tm) (club : Int) (seen : List Int) (a b : Int) : Bool := mayOne l club seen a && mayOne l club seen b
theorem sMayJudge_ev (l : List Tm) (id club : Int) (seen : List Int) (a b : Int) (hs : Small l) (hj : seen.length ≤ 1099511627776) : Ev (fun k => spec_MayJudge.f k l id club seen a b) (mayJ l club seen a b) := by
  unfold spec_MayJudge.f
  have r0 := findT_range l a
  have r1 := findT_range l b
  refine Ev.bind (sFindTeam_ev l a hs.1) (Ev.bind (sFindTeam_ev l b hs.1) (Ev.ite (fun h => Ev.ite (fun h2 => ?_) (fun h2 => Ev.some_ ?_)) (fun h => Ev.some_ ?_)))
  · refine Ev.pos (by omega) (Ev.pos r0.2 (Ev.ite (fun h3 => Ev.some_ ?_) (fun h3 => Ev.pos (by omega) (Ev.pos r1.2 (Ev.ite (fun h4 => Ev.some_ ?_) (fun h4 => Ev.bind (l4Has_ev seen a hj) (Ev.ite (fun h5 => Ev.some_ ?_) (fun h5 => Ev.bind (l4Has_ev seen b hj) (Ev.some_ ?_)))))))))
    · simp [mayJ, mayOne, h3]
    · simp [mayJ, mayOne, h4]
    · have : a ∈ seen := by simpa using h5
      simp [mayJ, mayOne, this]
    · have h6 : ¬ a ∈ seen := by simpa using h5
      have h0 : 0 ≤ findT l a := by omega
      have h1 : 0 ≤ findT l b := by omega
      simp [mayJ, mayOne, h0, h1, h3, h4, h6]
  · have : ¬ 0 ≤ findT l b := by omega
    simp [mayJ, mayOne, this]
  · have : ¬ 0 ≤ findT l a := by omega
    simp [mayJ, mayOne, this]
theorem iMayJ_l0 (l : List Tm) (id club : Int) (seen : List Int) (xs : List Int) (hs : Small l) (hj : seen.length ≤ 1099511627776) (hx : xs.length ≤ 1099511627776) : ∀ (d n : Nat), n + d = xs.length → Ev (fun k => impl_MayJudge.l0 k l xs (xs.length : Int) (n : Int) id club seen) ((xs.drop n).all fun a => mayOne l club seen a) := by
  intro d
  induction d with
  | zero =>
    intro n hd
    refine Ev.step (fun k => impl_MayJudge.l0.eq_2 ..) (Ev.neg (by omega) (Ev.some_ ?_))
    rw [List.drop_eq_nil_of_le (by omega)]
    rfl
  | succ d ih =>
    intro n hd
    refine Ev.step (fun k => impl_MayJudge.l0.eq_2 ..) (Ev.pos (by omega) (Ev.pos (by omega) (Ev.pos (by omega) ?_)))
    simp only [w64s (show n < 4611686018427387904 by omega), rd_at (show n < xs.length by omega)]
    have h1 := ih (n + 1) (by omega)
    rw [List.drop_eq_getElem_cons (show n < xs.length by omega)]
    generalize xs.drop (n + 1) = u at h1 ⊢
    have r0 := findT_range l xs[n]
    refine Ev.bnd (iFindTeam_eq l _) (Ev.ite (fun h => Ev.some_ ?_) (fun h => Ev.pos (by omega) (Ev.pos r0.2 (Ev.ite (fun h3 => Ev.some_ ?_) (fun h3 => Ev.bind (Contains_ev seen _ hj) (Ev.ite (fun h4 => Ev.some_ ?_) (fun h4 => Ev.cast h1 ?_)))))))
    · have : ¬ 0 ≤ findT l xs[n] := by omega
      simp [mayOne, this]
    · simp [mayOne, h3]
    · have : xs[n] ∈ seen := by simpa using h4
      simp [mayOne, this]
    · have h6 : ¬ xs[n] ∈ seen := by simpa using h4
      have h0 : 0 ≤ findT l xs[n] := by omega
      simp [mayOne, h0, h3, h6]
theorem iMayJudge_ev (l : List Tm) (id club : Int) (seen : List Int) (a b : Int) (hs : Small l) (hj : seen.length ≤ 1099511627776) : Ev (fun k => impl_MayJudge.f k l id club seen a b) (mayJ l club seen a b) := by
  unfold impl_MayJudge.f
  refine Ev.bnd rfl (Ev.cast (iMayJ_l0 l id club seen [a, b] hs hj (by simp) 2 0 rfl) ?_)
  simp [mayJ]
end Go.Proofs.Ytdlebbmmanjffaa.L
end

section
set_option linter.unusedVariables false
set_option linter.unusedSimpArgs false
namespace Go.Proofs.Ytdlebbmmanjffaa.L
open Go Go.RowKit Go.Proofs.Ytdlebbmmanjffaa.A Go.Proofs.YtdlebbmmanjffaaW.PrintWords
theorem FnExactMayJudge_pure (l0 : List S86) (x1 : S38) (x2 : S40) (b0 : l0.length ≤ 9223372036854775807) (b1 : ∀ x ∈ l0, x.f5.length ≤ 9223372036854775807) (b2 : x1.f2.length ≤ 9223372036854775807) : ∃ k, laws_FnExactMayJudge.f k l0 x1.f0 x1.f1 x1.f2 x2.f0 x2.f1 = some true := by
  refine Ev.rounds (g := fun k => laws_FnExactMayJudge.f k l0 x1.f0 x1.f1 x1.f2 x2.f0 x2.f1) ?_
  unfold laws_FnExactMayJudge.f
  obtain ⟨v, hv, hv1, hv2⟩ := szTeamS_ev l0 b0 b1
  refine Ev.bind hv (Ev.ite (fun _ => Ev.now _) (fun hs => ?_))
  obtain ⟨hl, hi⟩ := hv2 hs
  have hs := small_map l0 (by omega) (fun x hx => by have := hi x hx; omega)
  refine Ev.bnd (szJudge_eq _ _ _ v (by omega) hv1 b2) (Ev.ite (fun _ => Ev.now _) (fun hs2 => ?_))
  have hj : x1.f2.length ≤ 1099511627776 := by split at hs2 <;> omega
  refine Ev.bind (toTeamS_ev l0 (by omega) (fun x hx => by have := hi x hx; omega)) ?_
  refine Ev.bind (toJudge_ev _ _ _ hj) ?_
  refine Ev.bnd rfl ?_
  refine Ev.bind (sMayJudge_ev _ _ _ _ _ _ hs hj) ?_
  refine Ev.bind (toTeamS_ev l0 (by omega) (fun x hx => by have := hi x hx; omega)) ?_
  refine Ev.bind (toJudge_ev _ _ _ hj) ?_
  refine Ev.bnd rfl ?_
  refine Ev.bind (iMayJudge_ev _ _ _ _ _ _ hs hj) ?_
  refine Ev.neg (by simp) ?_
  refine Ev.bind (toTeamS_ev l0 (by omega) (fun x hx => by have := hi x hx; omega)) ?_
  refine Ev.bind (eqTeamS_ev _ hs) ?_
  refine Ev.pos rfl ?_
  refine Ev.bind (toJudge_ev _ _ _ hj) ?_
  refine Ev.bind (eqJudge_ev _ _ _ hj) ?_
  exact Ev.pos rfl (Ev.now _)
end Go.Proofs.Ytdlebbmmanjffaa.L
end
