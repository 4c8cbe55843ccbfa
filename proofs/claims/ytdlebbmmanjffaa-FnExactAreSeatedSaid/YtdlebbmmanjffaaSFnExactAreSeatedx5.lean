/- What the row FnExactAreSeated rests on, put together: LTeam1, LFind, LCont, LHas, LRngS, LRngI, LJudge, LMayJ, LPair, LSeatd, LXFnExactAreSeated. No condition. -/
import Derived.Test.YtdlebbmmanjffaaSFnExactAreSeatedx4
import Derived.Test.YtdlebbmmanjffaaSFnExactAreSeatedx1
import Derived.Test.YtdlebbmmanjffaaSFnExactAreSeatedx2
import Derived.Test.YtdlebbmmanjffaaSFnExactAreSeatedx0
import Derived.Test.YtdlebbmmanjffaaSFnExactAreSeatedx3
section
set_option linter.unusedVariables false
set_option linter.unusedSimpArgs false
namespace Go.Proofs.Ytdlebbmmanjffaa.L
open Go Go.RowKit Go.Proofs.Ytdlebbmmanjffaa.A Go.Proofs.YtdlebbmmanjffaaW.PrintWords
abbrev Tm := S78
theorem rdTm {l : List Tm} {n : Nat} (h : n < l.length) : rd_T78 l (n : Int) = l[n] := by
  simp [rd_T78, h]
theorem rdLTm {l : List S86} {n : Nat} (h : n < l.length) : rd_T86 l (n : Int) = l[n] := by
  simp [rd_T86, h]
def cvTm (x : S86) : Tm := ⟨x.f0, x.f1, x.f2, x.f3, x.f4, x.f5⟩
def Small (l : List Tm) : Prop := l.length ≤ 1099511627776 ∧ ∀ x ∈ l, x.f5.length ≤ 1099511627776
theorem szInt_eq (l : List Int) (left : Int) (h0 : 0 ≤ left) (h1 : left ≤ 1048576) (hl : l.length ≤ 9223372036854775807) : laws_szIntS.f l left = some (if left - l.length < 0 then -1 else left - l.length) := by
  unfold laws_szIntS.f
  rw [w64 (by omega) (by omega)]
  split <;> rfl
theorem szTeamS_l0 (l : List S86) (hl : l.length ≤ 1048576) (hi : ∀ x ∈ l, x.f5.length ≤ 9223372036854775807) : ∀ (d n : Nat) (left : Int), n + d = l.length → 0 ≤ left → left ≤ 1048576 → (∀ (i : Nat) (h : i < n) (h' : i < l.length), (l[i]).f5.length ≤ 1048576) → ∃ v, Ev (fun k => laws_szTeamS.l0 k l left (n : Int)) v ∧ v ≤ 1048576 ∧ (0 ≤ v → ∀ x ∈ l, x.f5.length ≤ 1048576) := by
  intro d
  induction d with
  | zero =>
    intro n left hd h0 h1 hp
    refine ⟨left, Ev.step (fun k => laws_szTeamS.l0.eq_2 ..) (Ev.neg (by omega) (Ev.now _)), h1, fun _ x hx => ?_⟩
    obtain ⟨j, hj, rfl⟩ := List.mem_iff_getElem.1 hx
    exact hp j (by omega) hj
  | succ d ih =>
    intro n left hd h0 h1 hp
    have hn : n < l.length := by omega
    have hs := szInt_eq (l[n]).f5 left h0 h1 (hi _ (List.getElem_mem _))
    by_cases hb : left - (l[n]).f5.length < 0
    · rw [if_pos hb] at hs
      have hs2 : laws_szTeam.f (l[n]).f0 (l[n]).f1 (l[n]).f2 (l[n]).f3 (l[n]).f4 (l[n]).f5 left = some (-1) := by
        unfold laws_szTeam.f
        rw [hs]
        rfl
      refine ⟨-1, Ev.step (fun k => laws_szTeamS.l0.eq_2 ..) (Ev.pos (by omega) (Ev.pos (by omega) ?_)), by omega, fun h => by omega⟩
      simp only [rdLTm hn]
      exact Ev.bnd hs2 (Ev.pos (by omega) (Ev.now _))
    · rw [if_neg hb] at hs
      have hs2 : laws_szTeam.f (l[n]).f0 (l[n]).f1 (l[n]).f2 (l[n]).f3 (l[n]).f4 (l[n]).f5 left = some (left - (l[n]).f5.length) := by
        unfold laws_szTeam.f
        rw [hs]
        simp only [Option.bind_some]
        rw [if_neg hb]
      obtain ⟨v, hv, hv1, hv2⟩ := ih (n + 1) (left - (l[n]).f5.length) (by omega) (by omega) (by omega) (fun i h h' => by
        by_cases e : i = n
        · subst e
          omega
        · exact hp i (by omega) h')
      refine ⟨v, Ev.step (fun k => laws_szTeamS.l0.eq_2 ..) (Ev.pos (by omega) (Ev.pos (by omega) ?_)), hv1, hv2⟩
      simp only [rdLTm hn, w64s (show n < 4611686018427387904 by omega)]
      exact Ev.bnd hs2 (Ev.neg (by omega) hv)
theorem szTeamS_ev (l : List S86) (hl : l.length ≤ 9223372036854775807) (hi : ∀ x ∈ l, x.f5.length ≤ 9223372036854775807) : ∃ v, Ev (fun k => laws_szTeamS.f k l 1048576) v ∧ v ≤ 1048576 ∧ (¬ v < 0 → l.length ≤ 1048576 ∧ ∀ x ∈ l, x.f5.length ≤ 1048576) := by
  unfold laws_szTeamS.f
  rw [w64 (by omega) (by omega)]
  by_cases hb : 1048576 - (l.length : Int) < 0
  · exact ⟨-1, Ev.pos hb (Ev.now _), by omega, fun h => by omega⟩
  · obtain ⟨v, hv, hv1, hv2⟩ := szTeamS_l0 l (by omega) hi l.length 0 (1048576 - l.length) (by omega) (by omega) (by omega) (fun i h => by omega)
    exact ⟨v, Ev.neg hb hv, hv1, fun h => ⟨by omega, hv2 (by omega)⟩⟩
theorem toTeam_ev (x : S86) (h : x.f5.length ≤ 1099511627776) : Ev (fun k => laws_toTeam.f k x.f0 x.f1 x.f2 x.f3 x.f4 x.f5) (x.f0, x.f1, x.f2, x.f3, x.f4, x.f5) := by
  unfold laws_toTeam.f
  exact Ev.bind (toIntS_ev x.f5 h) (Ev.now _)
theorem toTeamS_l0 (l : List S86) (hl : l.length ≤ 1099511627776) (hi : ∀ x ∈ l, x.f5.length ≤ 1099511627776) : ∀ (d n : Nat) (xs : List Tm), n + d = l.length → xs.length = l.length → xs.take n = (l.map cvTm).take n → Ev (fun k => laws_toTeamS.l0 k l xs (n : Int)) (l.map cvTm) := by
  intro d
  induction d with
  | zero =>
    intro n xs hd hx ht
    refine Ev.step (fun k => laws_toTeamS.l0.eq_2 ..) ?_
    refine Ev.neg (by omega) (Ev.some_ ?_)
    rw [List.take_of_length_le (by omega), List.take_of_length_le (by simp; omega)] at ht
    exact ht
  | succ d ih =>
    intro n xs hd hx ht
    refine Ev.step (fun k => laws_toTeamS.l0.eq_2 ..) ?_
    refine Ev.pos (by omega) (Ev.pos (by omega) ?_)
    simp only [w64s (show n < 4611686018427387904 by omega), rdLTm (show n < l.length by omega), Int.toNat_natCast]
    refine Ev.bind (toTeam_ev l[n] (hi _ (List.getElem_mem _))) (Ev.pos (by omega) ?_)
    refine ih (n + 1) _ (by omega) (by simp [hx]) ?_
    rw [List.take_succ_eq_append_getElem (by simp; omega), List.take_succ_eq_append_getElem (by simp; omega), List.take_set_of_le (by omega), ht]
    simp [cvTm]
theorem toTeamS_ev (l : List S86) (hl : l.length ≤ 1099511627776) (hi : ∀ x ∈ l, x.f5.length ≤ 1099511627776) : Ev (fun k => laws_toTeamS.f k l) (l.map cvTm) := by
  unfold laws_toTeamS.f
  refine Ev.pos (by omega) (Ev.pos (by simp; omega) ?_)
  exact toTeamS_l0 l hl hi l.length 0 _ (by omega) (by simp) (by simp)
theorem small_map (l : List S86) (hl : l.length ≤ 1099511627776) (hi : ∀ x ∈ l, x.f5.length ≤ 1099511627776) : Small (l.map cvTm) := by
  refine ⟨by simpa using hl, fun x hx => ?_⟩
  obtain ⟨y, hy, rfl⟩ := List.mem_map.1 hx
  exact hi y hy
theorem eqTeam_ev (x : Tm) (h : x.f5.length ≤ 1099511627776) : Ev (fun k => laws_eqTeam.f k x.f0 x.f1 x.f2 x.f3 x.f4 x.f5 x.f0 x.f1 x.f2 x.f3 x.f4 x.f5) true := by
  unfold laws_eqTeam.f
  exact Ev.pos rfl (Ev.pos rfl (Ev.pos rfl (Ev.pos rfl (Ev.pos rfl (Ev.bind (eqIntS_ev _ _ h) (Ev.pos (by simp) (Ev.now _)))))))
theorem eqTeamS_l0 (l : List Tm) (hs : Small l) : ∀ (d n : Nat), n + d = l.length → Ev (fun k => laws_eqTeamS.l0 k l l (n : Int)) true := by
  have hl := hs.1
  intro d
  induction d with
  | zero =>
    intro n hd
    refine Ev.step (fun k => laws_eqTeamS.l0.eq_2 ..) ?_
    exact Ev.neg (by omega) (Ev.now _)
  | succ d ih =>
    intro n hd
    refine Ev.step (fun k => laws_eqTeamS.l0.eq_2 ..) ?_
    refine Ev.pos (by omega) (Ev.pos (by omega) (Ev.pos (by omega) ?_))
    simp only [w64s (show n < 4611686018427387904 by omega), rdTm (show n < l.length by omega)]
    exact Ev.bind (eqTeam_ev l[n] (hs.2 _ (List.getElem_mem _))) (Ev.pos rfl (ih (n + 1) (by omega)))
theorem eqTeamS_ev (l : List Tm) (hs : Small l) : Ev (fun k => laws_eqTeamS.f k l l) true := by
  unfold laws_eqTeamS.f
  exact Ev.pos rfl (eqTeamS_l0 l hs l.length 0 (by omega))
end Go.Proofs.Ytdlebbmmanjffaa.L
end

section
set_option linter.unusedVariables false
set_option linter.unusedSimpArgs false
namespace Go.Proofs.Ytdlebbmmanjffaa.L
open Go Go.RowKit Go.Proofs.Ytdlebbmmanjffaa.A Go.Proofs.YtdlebbmmanjffaaW.PrintWords
def findT (l : List Tm) (id : Int) : Int := fidx (fun t => decide (t.f0 = id)) l
theorem iFindTeam_eq (l : List Tm) (id : Int) : impl_FindTeam.f l id = some (findT l id) := rfl
theorem fidx_cons {α : Type} (p : α → Bool) (x : α) (l : List α) : fidx p (x :: l) = if p x = true then 0 else if fidx p l < 0 then -1 else fidx p l + 1 := by
  unfold fidx
  rw [List.findIdx?_cons]
  by_cases h : p x = true
  · simp [h]
  · rw [if_neg h, if_neg h]
    cases l.findIdx? p with
    | none => simp
    | some i =>
      simp only [Option.map_some]
      rw [if_neg (by omega)]
      omega
theorem fidx_nil {α : Type} (p : α → Bool) : fidx p ([] : List α) = -1 := rfl
theorem fidx_range {α : Type} (p : α → Bool) : ∀ l : List α, -1 ≤ fidx p l ∧ fidx p l < l.length
  | [] => by simp [fidx_nil]
  | x :: l => by
    have := fidx_range p l
    rw [fidx_cons]
    simp only [List.length_cons]
    split
    · omega
    · split <;> omega
theorem sFindTeam_l0 (l : List Tm) (id : Int) (hl : l.length ≤ 1099511627776) : ∀ (d n : Nat), n + d = l.length → Ev (fun k => spec_FindTeam.l0 k l id (n : Int)) (if findT (l.drop n) id < 0 then -1 else n + findT (l.drop n) id) := by
  intro d
  induction d with
  | zero =>
    intro n hd
    refine Ev.step (fun k => spec_FindTeam.l0.eq_2 ..) ?_
    refine Ev.neg (by omega) (Ev.some_ ?_)
    rw [List.drop_eq_nil_of_le (by omega)]
    simp [findT, fidx_nil]
  | succ d ih =>
    intro n hd
    refine Ev.step (fun k => spec_FindTeam.l0.eq_2 ..) ?_
    refine Ev.pos (by omega) (Ev.pos (by omega) ?_)
    simp only [w64s (show n < 4611686018427387904 by omega), rdTm (show n < l.length by omega)]
    have h1 := ih (n + 1) (by omega)
    rw [List.drop_eq_getElem_cons (show n < l.length by omega)]
    generalize l.drop (n + 1) = u at h1 ⊢
    have hr := fidx_range (fun t : Tm => decide (t.f0 = id)) u
    refine Ev.ite (fun h => Ev.some_ ?_) (fun h => Ev.cast h1 ?_)
    · simp [findT, fidx_cons, h]
    · have e : findT (l[n] :: u) id = if findT u id < 0 then -1 else findT u id + 1 := by
        unfold findT
        rw [fidx_cons, if_neg (by simpa using h)]
      rw [e]
      have hr' : -1 ≤ findT u id := hr.1
      by_cases hu : findT u id < 0
      · simp [hu]
      · have h2 : ¬ findT u id + 1 < 0 := by omega
        rw [if_neg hu, if_neg hu, if_neg h2]
        omega
theorem sFindTeam_ev (l : List Tm) (id : Int) (hl : l.length ≤ 1099511627776) : Ev (fun k => spec_FindTeam.f k l id) (findT l id) := by
  unfold spec_FindTeam.f
  refine Ev.cast (sFindTeam_l0 l id hl l.length 0 (by omega)) ?_
  have hr := fidx_range (fun t : Tm => decide (t.f0 = id)) l
  simp only [List.drop_zero]
  split
  · unfold findT at *
    omega
  · omega
theorem findT_range (l : List Tm) (id : Int) : -1 ≤ findT l id ∧ findT l id < l.length := fidx_range _ l
end Go.Proofs.Ytdlebbmmanjffaa.L
end

section
set_option linter.unusedVariables false
set_option linter.unusedSimpArgs false
namespace Go.Proofs.Ytdlebbmmanjffaa.L
open Go Go.RowKit Go.Proofs.Ytdlebbmmanjffaa.A Go.Proofs.YtdlebbmmanjffaaW.PrintWords
theorem Index_l0 (l : List Int) (x : Int) (hl : l.length ≤ 1099511627776) : ∀ (d n : Nat), n + d = l.length → Ev (fun k => slices_Index_int_int.l0 k l x (l.length : Int) (n : Int)) (if x ∈ l.drop n then ((n + (l.drop n).idxOf x : Nat) : Int) else -1) := by
  intro d
  induction d with
  | zero =>
    intro n hd
    refine Ev.step (fun k => slices_Index_int_int.l0.eq_2 ..) ?_
    refine Ev.neg (by omega) (Ev.some_ ?_)
    rw [List.drop_eq_nil_of_le (by omega)]
    simp
  | succ d ih =>
    intro n hd
    refine Ev.step (fun k => slices_Index_int_int.l0.eq_2 ..) ?_
    refine Ev.pos (by omega) (Ev.pos (by omega) (Ev.pos (by omega) ?_))
    simp only [w64s (show n < 4611686018427387904 by omega), rd_at (show n < l.length by omega)]
    have h1 := ih (n + 1) (by omega)
    rw [List.drop_eq_getElem_cons (show n < l.length by omega)]
    generalize l.drop (n + 1) = u at h1 ⊢
    refine Ev.ite (fun h => Ev.some_ ?_) (fun h => Ev.cast h1 ?_)
    · simp [h]
    · have h' : ¬ l[n] = x := fun e => h e.symm
      simp only [List.mem_cons, h, false_or, List.idxOf_cons, beq_eq_false_iff_ne.2 h']
      split
      · simp; omega
      · rfl
def idx (l : List Int) (x : Int) : Int := if x ∈ l then (l.idxOf x : Int) else -1
theorem Index_ev (l : List Int) (x : Int) (hl : l.length ≤ 1099511627776) : Ev (fun k => slices_Index_int_int.f k l x) (idx l x) := by
  unfold slices_Index_int_int.f
  refine Ev.cast (Index_l0 l x hl l.length 0 (by omega)) ?_
  simp [idx]
theorem Contains_ev (l : List Int) (x : Int) (hl : l.length ≤ 1099511627776) : Ev (fun k => slices_Contains_int_int.f k l x) (decide (x ∈ l)) := by
  unfold slices_Contains_int_int.f
  refine Ev.bind (Index_ev l x hl) (Ev.some_ ?_)
  unfold idx
  by_cases h : x ∈ l
  · simp [h]
  · simp [h]
end Go.Proofs.Ytdlebbmmanjffaa.L
end

section
set_option linter.unusedVariables false
set_option linter.unusedSimpArgs false
namespace Go.Proofs.Ytdlebbmmanjffaa.L
open Go Go.RowKit Go.Proofs.Ytdlebbmmanjffaa.A Go.Proofs.YtdlebbmmanjffaaW.PrintWords
theorem l4Has_l0 (l : List Int) (x : Int) (hl : l.length ≤ 1099511627776) : ∀ (d n : Nat), n + d = l.length → Ev (fun k => spec_l4Has.l0 k l x (n : Int)) (decide (x ∈ l.drop n)) := by
  intro d
  induction d with
  | zero =>
    intro n hd
    refine Ev.step (fun k => spec_l4Has.l0.eq_2 ..) ?_
    refine Ev.neg (by omega) (Ev.some_ ?_)
    rw [List.drop_eq_nil_of_le (by omega)]
    simp
  | succ d ih =>
    intro n hd
    refine Ev.step (fun k => spec_l4Has.l0.eq_2 ..) ?_
    refine Ev.pos (by omega) (Ev.pos (by omega) ?_)
    simp only [w64s (show n < 4611686018427387904 by omega), rd_at (show n < l.length by omega)]
    have h1 := ih (n + 1) (by omega)
    rw [List.drop_eq_getElem_cons (show n < l.length by omega)]
    generalize l.drop (n + 1) = u at h1 ⊢
    refine Ev.ite (fun h => Ev.some_ ?_) (fun h => Ev.cast h1 ?_)
    · simp [h]
    · have h' : ¬ x = l[n] := fun e => h e.symm
      simp [h']
theorem l4Has_ev (l : List Int) (x : Int) (hl : l.length ≤ 1099511627776) : Ev (fun k => spec_l4Has.f k l x) (decide (x ∈ l)) := by
  unfold spec_l4Has.f
  exact Ev.cast (l4Has_l0 l x hl l.length 0 (by omega)) (by simp)
end Go.Proofs.Ytdlebbmmanjffaa.L
end

section
set_option linter.unusedVariables false
set_option linter.unusedSimpArgs false
namespace Go.Proofs.Ytdlebbmmanjffaa.L
open Go Go.RowKit Go.Proofs.Ytdlebbmmanjffaa.A Go.Proofs.YtdlebbmmanjffaaW.PrintWords
theorem l1In_eq (a b c : Int) : spec_l1In.f a b c = some (inR a b c) := by
  unfold spec_l1In.f inR
  by_cases h : a ≥ b
  · rw [if_pos h]; congr 1; simp; omega
  · rw [if_neg h]; congr 1; simp; omega
end Go.Proofs.Ytdlebbmmanjffaa.L
end

section
set_option linter.unusedVariables false
set_option linter.unusedSimpArgs false
namespace Go.Proofs.Ytdlebbmmanjffaa.L
open Go Go.RowKit Go.Proofs.Ytdlebbmmanjffaa.A Go.Proofs.YtdlebbmmanjffaaW.PrintWords
theorem InRange_eq (a b c : Int) : impl_InRange.f a b c = some (inR a b c) := by
  unfold impl_InRange.f inR
  by_cases h : b ≤ a
  · rw [if_pos h]; congr 1; simp; omega
  · rw [if_neg h]; congr 1; simp; omega
end Go.Proofs.Ytdlebbmmanjffaa.L
end

section
set_option linter.unusedVariables false
set_option linter.unusedSimpArgs false
namespace Go.Proofs.Ytdlebbmmanjffaa.L
open Go Go.RowKit Go.Proofs.Ytdlebbmmanjffaa.A Go.Proofs.YtdlebbmmanjffaaW.PrintWords
abbrev Jg := S46
theorem rdJg {l : List Jg} {n : Nat} (h : n < l.length) : rd_T46 l (n : Int) = l[n] := by
  simp [rd_T46, h]
theorem rdLJg {l : List S38} {n : Nat} (h : n < l.length) : rd_T38 l (n : Int) = l[n] := by
  simp [rd_T38, h]
def cvJg (x : S38) : Jg := ⟨x.f0, x.f1, x.f2⟩
def SmallJ (l : List Jg) : Prop := l.length ≤ 1099511627776 ∧ ∀ x ∈ l, x.f2.length ≤ 1099511627776
theorem szIntJ_eq (l : List Int) (left : Int) (h0 : 0 ≤ left) (h1 : left ≤ 1048576) (hl : l.length ≤ 9223372036854775807) : laws_szIntS.f l left = some (if left - l.length < 0 then -1 else left - l.length) := by
  unfold laws_szIntS.f
  rw [w64 (by omega) (by omega)]
  split <;> rfl
theorem szJudge_eq (a b : Int) (l : List Int) (left : Int) (h0 : 0 ≤ left) (h1 : left ≤ 1048576) (hl : l.length ≤ 9223372036854775807) : laws_szJudge.f a b l left = some (if left - l.length < 0 then -1 else left - l.length) := by
  unfold laws_szJudge.f
  rw [szIntJ_eq l left h0 h1 hl]
  simp only [Option.bind_some]
  by_cases h : left - (l.length : Int) < 0
  · rw [if_pos h, if_pos (by omega)]
  · rw [if_neg h, if_neg h]
theorem szJudgeS_l0 (l : List S38) (hl : l.length ≤ 1048576) (hi : ∀ x ∈ l, x.f2.length ≤ 9223372036854775807) : ∀ (d n : Nat) (left : Int), n + d = l.length → 0 ≤ left → left ≤ 1048576 → (∀ (i : Nat) (h : i < n) (h' : i < l.length), (l[i]).f2.length ≤ 1048576) → ∃ v, Ev (fun k => laws_szJudgeS.l0 k l left (n : Int)) v ∧ v ≤ 1048576 ∧ (0 ≤ v → ∀ x ∈ l, x.f2.length ≤ 1048576) := by
  intro d
  induction d with
  | zero =>
    intro n left hd h0 h1 hp
    refine ⟨left, Ev.step (fun k => laws_szJudgeS.l0.eq_2 ..) (Ev.neg (by omega) (Ev.now _)), h1, fun _ x hx => ?_⟩
    obtain ⟨j, hj, rfl⟩ := List.mem_iff_getElem.1 hx
    exact hp j (by omega) hj
  | succ d ih =>
    intro n left hd h0 h1 hp
    have hn : n < l.length := by omega
    have hs := szJudge_eq (l[n]).f0 (l[n]).f1 (l[n]).f2 left h0 h1 (hi _ (List.getElem_mem _))
    by_cases hb : left - (l[n]).f2.length < 0
    · rw [if_pos hb] at hs
      refine ⟨-1, Ev.step (fun k => laws_szJudgeS.l0.eq_2 ..) (Ev.pos (by omega) (Ev.pos (by omega) ?_)), by omega, fun h => by omega⟩
      simp only [rdLJg hn]
      exact Ev.bnd hs (Ev.pos (by omega) (Ev.now _))
    · rw [if_neg hb] at hs
      obtain ⟨v, hv, hv1, hv2⟩ := ih (n + 1) (left - (l[n]).f2.length) (by omega) (by omega) (by omega) (fun i h h' => by
        by_cases e : i = n
        · subst e
          omega
        · exact hp i (by omega) h')
      refine ⟨v, Ev.step (fun k => laws_szJudgeS.l0.eq_2 ..) (Ev.pos (by omega) (Ev.pos (by omega) ?_)), hv1, hv2⟩
      simp only [rdLJg hn, w64s (show n < 4611686018427387904 by omega)]
      exact Ev.bnd hs (Ev.neg (by omega) hv)
theorem szJudgeS_ev (l : List S38) (left : Int) (hL : 0 ≤ left ∧ left ≤ 1048576) (hl : l.length ≤ 9223372036854775807) (hi : ∀ x ∈ l, x.f2.length ≤ 9223372036854775807) : ∃ v, Ev (fun k => laws_szJudgeS.f k l left) v ∧ v ≤ 1048576 ∧ (¬ v < 0 → l.length ≤ 1048576 ∧ ∀ x ∈ l, x.f2.length ≤ 1048576) := by
  unfold laws_szJudgeS.f
  rw [w64 (by omega) (by omega)]
  by_cases hb : left - (l.length : Int) < 0
  · exact ⟨-1, Ev.pos hb (Ev.now _), by omega, fun h => by omega⟩
  · obtain ⟨v, hv, hv1, hv2⟩ := szJudgeS_l0 l (by omega) hi l.length 0 (left - l.length) (by omega) (by omega) (by omega) (fun i h => by omega)
    exact ⟨v, Ev.neg hb hv, hv1, fun h => ⟨by omega, hv2 (by omega)⟩⟩
theorem toJudge_ev (a b : Int) (l : List Int) (h : l.length ≤ 1099511627776) : Ev (fun k => laws_toJudge.f k a b l) (a, b, l) := by
  unfold laws_toJudge.f
  exact Ev.bind (toIntS_ev l h) (Ev.now _)
theorem toJudgeS_l0 (l : List S38) (hl : l.length ≤ 1099511627776) (hi : ∀ x ∈ l, x.f2.length ≤ 1099511627776) : ∀ (d n : Nat) (xs : List Jg), n + d = l.length → xs.length = l.length → xs.take n = (l.map cvJg).take n → Ev (fun k => laws_toJudgeS.l0 k l xs (n : Int)) (l.map cvJg) := by
  intro d
  induction d with
  | zero =>
    intro n xs hd hx ht
    refine Ev.step (fun k => laws_toJudgeS.l0.eq_2 ..) ?_
    refine Ev.neg (by omega) (Ev.some_ ?_)
    rw [List.take_of_length_le (by omega), List.take_of_length_le (by simp; omega)] at ht
    exact ht
  | succ d ih =>
    intro n xs hd hx ht
    refine Ev.step (fun k => laws_toJudgeS.l0.eq_2 ..) ?_
    refine Ev.pos (by omega) (Ev.pos (by omega) ?_)
    simp only [w64s (show n < 4611686018427387904 by omega), rdLJg (show n < l.length by omega), Int.toNat_natCast]
    refine Ev.bind (toJudge_ev _ _ _ (hi _ (List.getElem_mem _))) (Ev.pos (by omega) ?_)
    refine ih (n + 1) _ (by omega) (by simp [hx]) ?_
    rw [List.take_succ_eq_append_getElem (by simp; omega), List.take_succ_eq_append_getElem (by simp; omega), List.take_set_of_le (by omega), ht]
    simp [cvJg]
theorem toJudgeS_ev (l : List S38) (hl : l.length ≤ 1099511627776) (hi : ∀ x ∈ l, x.f2.length ≤ 1099511627776) : Ev (fun k => laws_toJudgeS.f k l) (l.map cvJg) := by
  unfold laws_toJudgeS.f
  refine Ev.pos (by omega) (Ev.pos (by simp; omega) ?_)
  exact toJudgeS_l0 l hl hi l.length 0 _ (by omega) (by simp) (by simp)
theorem smallJ_map (l : List S38) (hl : l.length ≤ 1099511627776) (hi : ∀ x ∈ l, x.f2.length ≤ 1099511627776) : SmallJ (l.map cvJg) := by
  refine ⟨by simpa using hl, fun x hx => ?_⟩
  obtain ⟨y, hy, rfl⟩ := List.mem_map.1 hx
  exact hi y hy
theorem eqJudge_ev (a b : Int) (l : List Int) (h : l.length ≤ 1099511627776) : Ev (fun k => laws_eqJudge.f k a b l a b l) true := by
  unfold laws_eqJudge.f
  exact Ev.pos rfl (Ev.pos rfl (Ev.bind (eqIntS_ev _ _ h) (Ev.pos (by simp) (Ev.now _))))
theorem eqJudgeS_l0 (l : List Jg) (hs : SmallJ l) : ∀ (d n : Nat), n + d = l.length → Ev (fun k => laws_eqJudgeS.l0 k l l (n : Int)) true := by
  have hl := hs.1
  intro d
  induction d with
  | zero =>
    intro n hd
    refine Ev.step (fun k => laws_eqJudgeS.l0.eq_2 ..) ?_
    exact Ev.neg (by omega) (Ev.now _)
  | succ d ih =>
    intro n hd
    refine Ev.step (fun k => laws_eqJudgeS.l0.eq_2 ..) ?_
    refine Ev.pos (by omega) (Ev.pos (by omega) (Ev.pos (by omega) ?_))
    simp only [w64s (show n < 4611686018427387904 by omega), rdJg (show n < l.length by omega)]
    exact Ev.bind (eqJudge_ev _ _ _ (hs.2 _ (List.getElem_mem _))) (Ev.pos rfl (ih (n + 1) (by omega)))
theorem eqJudgeS_ev (l : List Jg) (hs : SmallJ l) : Ev (fun k => laws_eqJudgeS.f k l l) true := by
  unfold laws_eqJudgeS.f
  exact Ev.pos rfl (eqJudgeS_l0 l hs l.length 0 (by omega))
def seenF (p : Int) : List Int → Bool
  | [] => true
  | x :: t => inR x 1 99 && decide (p < x) && seenF x t
def judgesF (p : Int) : List Jg → Bool
  | [] => true
  | j :: l => inR j.f0 1 99 && decide (p < j.f0) && inR j.f1 1 99 && seenF 0 j.f2 && judgesF j.f0 l
def okJudges (l : List Jg) : Bool := judgesF 0 l && decide ((l.length : Int) ≤ 10)
theorem sJ_l1 (l : List Jg) (hs : SmallJ l) (m : Nat) (hm : m < l.length) (R : Bool) (hR : Ev (fun k => spec_AreJudges.l0 k l ((m + 1 : Nat) : Int)) R) : ∀ (d n : Nat) (p : Int), n + d = (l[m]).f2.length → (n = 0 → p = 0) → (∀ h : 0 < n ∧ n ≤ (l[m]).f2.length, p = ((l[m]).f2[n - 1]'(by omega))) → Ev (fun k => spec_AreJudges.l1 k l (m : Int) (n : Int)) (seenF p ((l[m]).f2.drop n) && R) := by
  have hl := hs.1
  have h2 := hs.2 _ (List.getElem_mem hm)
  intro d
  induction d with
  | zero =>
    intro n p hd hp0 hp
    refine Ev.step (fun k => spec_AreJudges.l1.eq_2 ..) (Ev.pos (by omega) (Ev.pos (by omega) ?_))
    simp only [rdJg hm, w64s (show m < 4611686018427387904 by omega)]
    refine Ev.neg (by omega) (Ev.cast hR ?_)
    rw [List.drop_eq_nil_of_le (by omega)]
    simp [seenF]
  | succ d ih =>
    intro n p hd hp0 hp
    refine Ev.step (fun k => spec_AreJudges.l1.eq_2 ..) (Ev.pos (by omega) (Ev.pos (by omega) ?_))
    simp only [rdJg hm, w64s (show n < 4611686018427387904 by omega)]
    refine Ev.pos (by omega) (Ev.pos (by omega) ?_)
    simp only [rd_at (show n < (l[m]).f2.length by omega), l1In_eq, Option.bind_some]
    have h1 := ih (n + 1) ((l[m]).f2[n]) (by omega) (by omega) (fun h => by simp)
    rw [List.drop_eq_getElem_cons (show n < (l[m]).f2.length by omega)]
    generalize (l[m]).f2.drop (n + 1) = u at h1 ⊢
    refine Ev.ite (fun h => Ev.ite (fun h3 => ?_) (fun h3 => Ev.cast h1 ?_)) (fun h => Ev.some_ ?_)
    · obtain ⟨q, rfl⟩ : ∃ q, n = q + 1 := ⟨n - 1, by omega⟩
      simp only [w64p (show q < 4611686018427387904 by omega), rd_at (show q < (l[m]).f2.length by omega)]
      have hp' : p = (l[m]).f2[q] := hp ⟨by omega, by omega⟩
      refine Ev.pos (by omega) (Ev.pos (by omega) (Ev.ite (fun h4 => Ev.some_ ?_) (fun h4 => Ev.cast h1 ?_)))
      · have : ¬ p < (l[m]).f2[q + 1] := by omega
        simp [seenF, this]
      · have : p < (l[m]).f2[q + 1] := by omega
        simp [seenF, this, h]
    · have h0 : n = 0 := by omega
      have := inR_iff.1 h
      have : p < (l[m]).f2[n] := by rw [hp0 h0]; omega
      simp [seenF, h, this]
    · simp [seenF, h]
theorem sAreJudges_l0 (l : List Jg) (hs : SmallJ l) : ∀ (d n : Nat) (p : Int), n + d = l.length → (n = 0 → p = 0) → (∀ h : 0 < n ∧ n ≤ l.length, p = (l[n - 1]'(by omega)).f0) → Ev (fun k => spec_AreJudges.l0 k l (n : Int)) (judgesF p (l.drop n) && decide ((l.length : Int) ≤ 10)) := by
  have hl := hs.1
  intro d
  induction d with
  | zero =>
    intro n p hd hp0 hp
    refine Ev.step (fun k => spec_AreJudges.l0.eq_2 ..) ?_
    refine Ev.neg (by omega) (Ev.some_ ?_)
    rw [List.drop_eq_nil_of_le (by omega)]
    simp [judgesF]
  | succ d ih =>
    intro n p hd hp0 hp
    have hn : n < l.length := by omega
    refine Ev.step (fun k => spec_AreJudges.l0.eq_2 ..) ?_
    refine Ev.pos (by omega) (Ev.pos (by omega) ?_)
    simp only [rdJg hn, l1In_eq, Option.bind_some]
    have h1 := ih (n + 1) (l[n]).f0 (by omega) (by omega) (fun h => by simp)
    have hin := sJ_l1 l hs n hn _ h1 (l[n]).f2.length 0 0 (by omega) (fun _ => rfl) (fun h => by omega)
    rw [List.drop_zero] at hin
    rw [List.drop_eq_getElem_cons hn]
    generalize l.drop (n + 1) = u at h1 hin ⊢
    have no : ∀ R : Bool, R = false → Ev (fun k => spec_AreJudges.j1 k l (n : Int) true) R := fun R hR => Ev.step (fun k => spec_AreJudges.j1.eq_2 ..) (Ev.pos rfl (Ev.some_ hR.symm))
    have go : ∀ R : Bool, (seenF 0 (l[n]).f2 && (judgesF (l[n]).f0 u && decide ((l.length : Int) ≤ 10))) = R → Ev (fun k => spec_AreJudges.j1 k l (n : Int) false) R := fun R hR => Ev.step (fun k => spec_AreJudges.j1.eq_2 ..) (Ev.neg (by simp) (Ev.cast hin hR))
    refine Ev.ite (fun h => Ev.ite (fun h' => Ev.ite (fun h2 => ?_) (fun h2 => go _ ?_)) (fun h' => no _ ?_)) (fun h => no _ ?_)
    · obtain ⟨q, rfl⟩ : ∃ q, n = q + 1 := ⟨n - 1, by omega⟩
      simp only [w64p (show q < 4611686018427387904 by omega), rdJg (show q < l.length by omega)]
      have hp' : p = l[q].f0 := hp ⟨by omega, by omega⟩
      refine Ev.pos (by omega) (Ev.pos (by omega) ?_)
      by_cases h3 : l[q].f0 ≥ l[q + 1].f0
      · rw [decide_eq_true h3]
        have : ¬ p < l[q + 1].f0 := by omega
        exact no _ (by simp [judgesF, this])
      · rw [decide_eq_false h3]
        have : p < l[q + 1].f0 := by omega
        exact go _ (by simp [judgesF, this, h, h', Bool.and_assoc])
    · have h0 : n = 0 := by omega
      have := inR_iff.1 h
      have : p < l[n].f0 := by rw [hp0 h0]; omega
      simp [judgesF, h, h', this, Bool.and_assoc]
    · simp [judgesF, h']
    · simp [judgesF, h]
theorem sAreJudges_ev (l : List Jg) (hs : SmallJ l) : Ev (fun k => spec_AreJudges.f k l) (okJudges l) := by
  unfold spec_AreJudges.f
  exact Ev.cast (sAreJudges_l0 l hs l.length 0 0 (by omega) (fun _ => rfl) (fun h => by omega)) (by simp [okJudges])
theorem iJ_l1 (l : List Jg) (hs : SmallJ l) (m : Nat) (hm : m < l.length) (a b : Int) (s : List Int) (h2 : s.length ≤ 1099511627776) (R : Bool) (hR : Ev (fun k => impl_AreJudges.l0 k l l (l.length : Int) ((m + 1 : Nat) : Int)) R) : ∀ (d n : Nat) (p : Int), n + d = s.length → (n = 0 → p = 0) → (∀ h : 0 < n ∧ n ≤ s.length, p = (s[n - 1]'(by omega))) → Ev (fun k => impl_AreJudges.l1 k l l (l.length : Int) (m : Int) s (s.length : Int) (n : Int) a b s) (seenF p (s.drop n) && R) := by
  have hl := hs.1
  intro d
  induction d with
  | zero =>
    intro n p hd hp0 hp
    refine Ev.step (fun k => impl_AreJudges.l1.eq_2 ..) (Ev.neg (by omega) ?_)
    simp only [w64s (show m < 4611686018427387904 by omega)]
    refine Ev.cast hR ?_
    rw [List.drop_eq_nil_of_le (by omega)]
    simp [seenF]
  | succ d ih =>
    intro n p hd hp0 hp
    refine Ev.step (fun k => impl_AreJudges.l1.eq_2 ..) (Ev.pos (by omega) (Ev.pos (by omega) (Ev.pos (by omega) ?_)))
    simp only [w64s (show n < 4611686018427387904 by omega), rd_at (show n < s.length by omega), InRange_eq, Option.bind_some]
    have h1 := ih (n + 1) (s[n]) (by omega) (by omega) (fun h => by simp)
    rw [List.drop_eq_getElem_cons (show n < s.length by omega)]
    generalize s.drop (n + 1) = u at h1 ⊢
    refine Ev.ite (fun h => Ev.ite (fun h3 => ?_) (fun h3 => Ev.cast h1 ?_)) (fun h => Ev.some_ ?_)
    · obtain ⟨q, rfl⟩ : ∃ q, n = q + 1 := ⟨n - 1, by omega⟩
      simp only [w64p (show q < 4611686018427387904 by omega), rd_at (show q < s.length by omega)]
      have hp' : p = s[q] := hp ⟨by omega, by omega⟩
      refine Ev.pos (by omega) (Ev.pos (by omega) (Ev.ite (fun h4 => Ev.some_ ?_) (fun h4 => Ev.cast h1 ?_)))
      · have : ¬ p < s[q + 1] := by omega
        simp [seenF, this]
      · have : p < s[q + 1] := by omega
        simp [seenF, this, h]
    · have h0 : n = 0 := by omega
      have := inR_iff.1 h
      have : p < s[n] := by rw [hp0 h0]; omega
      simp [seenF, h, this]
    · simp [seenF, h]
theorem iAreJudges_l0 (l : List Jg) (hs : SmallJ l) : ∀ (d n : Nat) (p : Int), n + d = l.length → (n = 0 → p = 0) → (∀ h : 0 < n ∧ n ≤ l.length, p = (l[n - 1]'(by omega)).f0) → Ev (fun k => impl_AreJudges.l0 k l l (l.length : Int) (n : Int)) (judgesF p (l.drop n)) := by
  have hl := hs.1
  intro d
  induction d with
  | zero =>
    intro n p hd hp0 hp
    refine Ev.step (fun k => impl_AreJudges.l0.eq_2 ..) ?_
    refine Ev.neg (by omega) (Ev.some_ ?_)
    rw [List.drop_eq_nil_of_le (by omega)]
    rfl
  | succ d ih =>
    intro n p hd hp0 hp
    have hn : n < l.length := by omega
    have h2 := hs.2 _ (List.getElem_mem hn)
    refine Ev.step (fun k => impl_AreJudges.l0.eq_2 ..) ?_
    refine Ev.pos (by omega) (Ev.pos (by omega) (Ev.pos (by omega) ?_))
    simp only [rdJg hn, InRange_eq, Option.bind_some]
    have h1 := ih (n + 1) (l[n]).f0 (by omega) (by omega) (fun h => by simp)
    have hin := iJ_l1 l hs n hn (l[n]).f0 (l[n]).f1 (l[n]).f2 h2 _ h1 (l[n]).f2.length 0 0 (by omega) (fun _ => rfl) (fun h => by omega)
    rw [List.drop_zero] at hin
    rw [List.drop_eq_getElem_cons hn]
    generalize l.drop (n + 1) = u at h1 hin ⊢
    have no : ∀ R : Bool, R = false → Ev (fun k => impl_AreJudges.j1 k l l (l.length : Int) (n : Int) true (l[n]).f0 (l[n]).f1 (l[n]).f2) R := fun R hR => Ev.step (fun k => impl_AreJudges.j1.eq_2 ..) (Ev.pos rfl (Ev.some_ hR.symm))
    have go : ∀ R : Bool, (seenF 0 (l[n]).f2 && judgesF (l[n]).f0 u) = R → Ev (fun k => impl_AreJudges.j1 k l l (l.length : Int) (n : Int) false (l[n]).f0 (l[n]).f1 (l[n]).f2) R := fun R hR => Ev.step (fun k => impl_AreJudges.j1.eq_2 ..) (Ev.neg (by simp) (Ev.cast hin hR))
    have bb : ∀ (R : Bool), (inR (l[n]).f1 1 99 = false → R = false) → (inR (l[n]).f1 1 99 = true → (seenF 0 (l[n]).f2 && judgesF (l[n]).f0 u) = R) → Ev (fun k => impl_AreJudges.j1 k l l (l.length : Int) (n : Int) (!inR (l[n]).f1 1 99) (l[n]).f0 (l[n]).f1 (l[n]).f2) R := by
      intro R r0 r1
      cases hq : inR (l[n]).f1 1 99 with
      | true => exact go R (r1 hq)
      | false => exact no R (r0 hq)
    refine Ev.ite (fun h => Ev.ite (fun h2 => ?_) (fun h2 => bb _ (fun h' => ?_) (fun h' => ?_))) (fun h => no _ ?_)
    · obtain ⟨q, rfl⟩ : ∃ q, n = q + 1 := ⟨n - 1, by omega⟩
      simp only [w64p (show q < 4611686018427387904 by omega), rdJg (show q < l.length by omega)]
      have hp' : p = l[q].f0 := hp ⟨by omega, by omega⟩
      refine Ev.pos (by omega) (Ev.pos (by omega) (Ev.ite (fun h3 => no _ ?_) (fun h3 => bb _ (fun h' => ?_) (fun h' => ?_))))
      · have : ¬ p < l[q + 1].f0 := by omega
        simp [judgesF, this]
      · simp [judgesF, h']
      · have : p < l[q + 1].f0 := by omega
        simp [judgesF, this, h, h', Bool.and_assoc]
    · simp [judgesF, h']
    · have h0 : n = 0 := by omega
      have := inR_iff.1 h
      have : p < l[n].f0 := by rw [hp0 h0]; omega
      simp [judgesF, h, h', this, Bool.and_assoc]
    · simp [judgesF, h]
theorem iAreJudges_ev (l : List Jg) (hs : SmallJ l) : Ev (fun k => impl_AreJudges.f k l) (okJudges l) := by
  unfold impl_AreJudges.f
  refine Ev.ite (fun h => Ev.some_ ?_) (fun h => Ev.cast (iAreJudges_l0 l hs l.length 0 0 (by omega) (fun _ => rfl) (fun h => by omega)) ?_)
  · have : ¬ (l.length : Int) ≤ 10 := by omega
    simp [okJudges, this]
  · have : (l.length : Int) ≤ 10 := by omega
    simp [okJudges, this]
end Go.Proofs.Ytdlebbmmanjffaa.L
end

section
set_option linter.unusedVariables false
set_option linter.unusedSimpArgs false
namespace Go.Proofs.Ytdlebbmmanjffaa.L
open Go Go.RowKit Go.Proofs.Ytdlebbmmanjffaa.A Go.Proofs.YtdlebbmmanjffaaW.PrintWords
def mayOne (l : List Tm) (club : Int) (seen : List Int) (id : Int) : Bool := decide (0 ≤ findT l id ∧ ¬ (rd_T78 l (findT l id)).f1 = club ∧ ¬ id ∈ seen)
def mayJ (l : List Tm) (club : Int) (seen : List Int) (a b : Int) : Bool := mayOne l club seen a && mayOne l club seen b
theorem sMayJudge_ev (l : List Tm) (id club : Int) (seen : List Int) (a b : Int) (hs : Small l) (hj : seen.length ≤ 1099511627776) : Ev (fun k => spec_MayJudge.f k l id club seen a b) (mayJ l club seen a b) := by
  unfold spec_MayJudge.f
  have r0 := findT_range l a
  have r1 := findT_range l b
  refine Ev.bind (sFindTeam_ev l a hs.1) (Ev.bind (sFindTeam_ev l b hs.1) (Ev.ite (fun h => Ev.ite (fun h2 => ?_) (fun h2 => Ev.some_ ?_)) (fun h => Ev.some_ ?_)))
  · refine Ev.pos (by omega) (Ev.pos r0.2 (Ev.ite (fun h3 => Ev.some_ ?_) (fun h3 => Ev.pos (by omega) (Ev.pos r1.2 (Ev.ite (fun h4 => Ev.some_ ?_) (fun h4 => Ev.bind (l4Has_ev seen a hj) (Ev.ite (fun h5 => Ev.some_ ?_) (fun h5 => Ev.bind (l4Has_ev seen b hj) (Ev.some_ ?_)))))))))
    · simp [mayJ, mayOne, h3]
    · simp [mayJ, mayOne, h4]
    · have : a ∈ seen := by simpa using h5
      simp [mayJ, mayOne, this]
    · have h6 : ¬ a ∈ seen := by simpa using h5
      have h0 : 0 ≤ findT l a := by omega
      have h1 : 0 ≤ findT l b := by omega
      simp [mayJ, mayOne, h0, h1, h3, h4, h6]
  · have : ¬ 0 ≤ findT l b := by omega
    simp [mayJ, mayOne, this]
  · have : ¬ 0 ≤ findT l a := by omega
    simp [mayJ, mayOne, this]
theorem iMayJ_l0 (l : List Tm) (id club : Int) (seen : List Int) (xs : List Int) (hs : Small l) (hj : seen.length ≤ 1099511627776) (hx : xs.length ≤ 1099511627776) : ∀ (d n : Nat), n + d = xs.length → Ev (fun k => impl_MayJudge.l0 k l xs (xs.length : Int) (n : Int) id club seen) ((xs.drop n).all fun a => mayOne l club seen a) := by
  intro d
  induction d with
  | zero =>
    intro n hd
    refine Ev.step (fun k => impl_MayJudge.l0.eq_2 ..) (Ev.neg (by omega) (Ev.some_ ?_))
    rw [List.drop_eq_nil_of_le (by omega)]
    rfl
  | succ d ih =>
    intro n hd
    refine Ev.step (fun k => impl_MayJudge.l0.eq_2 ..) (Ev.pos (by omega) (Ev.pos (by omega) (Ev.pos (by omega) ?_)))
    simp only [w64s (show n < 4611686018427387904 by omega), rd_at (show n < xs.length by omega)]
    have h1 := ih (n + 1) (by omega)
    rw [List.drop_eq_getElem_cons (show n < xs.length by omega)]
    generalize xs.drop (n + 1) = u at h1 ⊢
    have r0 := findT_range l xs[n]
    refine Ev.bnd (iFindTeam_eq l _) (Ev.ite (fun h => Ev.some_ ?_) (fun h => Ev.pos (by omega) (Ev.pos r0.2 (Ev.ite (fun h3 => Ev.some_ ?_) (fun h3 => Ev.bind (Contains_ev seen _ hj) (Ev.ite (fun h4 => Ev.some_ ?_) (fun h4 => Ev.cast h1 ?_)))))))
    · have : ¬ 0 ≤ findT l xs[n] := by omega
      simp [mayOne, this]
    · simp [mayOne, h3]
    · have : xs[n] ∈ seen := by simpa using h4
      simp [mayOne, this]
    · have h6 : ¬ xs[n] ∈ seen := by simpa using h4
      have h0 : 0 ≤ findT l xs[n] := by omega
      simp [mayOne, h0, h3, h6]
theorem iMayJudge_ev (l : List Tm) (id club : Int) (seen : List Int) (a b : Int) (hs : Small l) (hj : seen.length ≤ 1099511627776) : Ev (fun k => impl_MayJudge.f k l id club seen a b) (mayJ l club seen a b) := by
  unfold impl_MayJudge.f
  refine Ev.bnd rfl (Ev.cast (iMayJ_l0 l id club seen [a, b] hs hj (by simp) 2 0 rfl) ?_)
  simp [mayJ]
end Go.Proofs.Ytdlebbmmanjffaa.L
end

section
set_option linter.unusedVariables false
set_option linter.unusedSimpArgs false
namespace Go.Proofs.Ytdlebbmmanjffaa.L
open Go Go.RowKit Go.Proofs.Ytdlebbmmanjffaa.A Go.Proofs.YtdlebbmmanjffaaW.PrintWords
theorem rdLPair {l : List S40} {n : Nat} (h : n < l.length) : rd_T40 l (n : Int) = l[n] := by
  simp [rd_T40, h]
theorem rdPair {l : List S48} {n : Nat} (h : n < l.length) : rd_T48 l (n : Int) = l[n] := by
  simp [rd_T48, h]
def cvPair (x : S40) : S48 := ⟨x.f0, x.f1⟩
theorem toPairS_l0 (l : List S40) (hl : l.length ≤ 1099511627776) : ∀ (d n : Nat) (xs : List S48), n + d = l.length → xs.length = l.length → xs.take n = (l.map cvPair).take n → Ev (fun k => laws_toPairS.l0 k l xs (n : Int)) (l.map cvPair) := by
  intro d
  induction d with
  | zero =>
    intro n xs hd hx ht
    refine Ev.step (fun k => laws_toPairS.l0.eq_2 ..) ?_
    refine Ev.neg (by omega) (Ev.some_ ?_)
    rw [List.take_of_length_le (by omega), List.take_of_length_le (by simp; omega)] at ht
    exact ht
  | succ d ih =>
    intro n xs hd hx ht
    refine Ev.step (fun k => laws_toPairS.l0.eq_2 ..) ?_
    refine Ev.pos (by omega) (Ev.pos (by omega) ?_)
    simp only [laws_toPair.f, Option.bind_some]
    refine Ev.pos (by omega) ?_
    simp only [w64s (show n < 4611686018427387904 by omega), rdLPair (show n < l.length by omega), Int.toNat_natCast]
    refine ih (n + 1) _ (by omega) (by simp [hx]) ?_
    rw [List.take_succ_eq_append_getElem (by simp; omega), List.take_succ_eq_append_getElem (by simp; omega), List.take_set_of_le (by omega), ht]
    simp [cvPair]
theorem toPairS_ev (l : List S40) (hl : l.length ≤ 1099511627776) : Ev (fun k => laws_toPairS.f k l) (l.map cvPair) := by
  unfold laws_toPairS.f
  refine Ev.pos (by omega) (Ev.pos (by simp; omega) ?_)
  exact toPairS_l0 l hl l.length 0 _ (by omega) (by simp) (by simp)
theorem eqPair_same (x : S48) : laws_eqPair.f x.f0 x.f1 x.f0 x.f1 = some true := by simp [laws_eqPair.f]
theorem eqPairS_l0 (l : List S48) (hl : l.length ≤ 1099511627776) : ∀ (d n : Nat), n + d = l.length → Ev (fun k => laws_eqPairS.l0 k l l (n : Int)) true := by
  intro d
  induction d with
  | zero =>
    intro n hd
    refine Ev.step (fun k => laws_eqPairS.l0.eq_2 ..) ?_
    exact Ev.neg (by omega) (Ev.now _)
  | succ d ih =>
    intro n hd
    refine Ev.step (fun k => laws_eqPairS.l0.eq_2 ..) ?_
    refine Ev.pos (by omega) (Ev.pos (by omega) (Ev.pos (by omega) ?_))
    simp only [w64s (show n < 4611686018427387904 by omega), rdPair (show n < l.length by omega), eqPair_same, Option.bind_some]
    exact Ev.pos trivial (ih (n + 1) (by omega))
theorem eqPairS_ev (l : List S48) (hl : l.length ≤ 1099511627776) : Ev (fun k => laws_eqPairS.f k l l) true := by
  unfold laws_eqPairS.f
  exact Ev.pos rfl (eqPairS_l0 l hl l.length 0 (by omega))
theorem szPairS_eq (l : List S40) (left : Int) (h0 : 0 ≤ left) (h1 : left ≤ 1048576) (hl : l.length ≤ 9223372036854775807) : laws_szPairS.f l left = some (if left - l.length < 0 then -1 else left - l.length) := by
  unfold laws_szPairS.f
  rw [w64 (by omega) (by omega)]
  split <;> rfl
end Go.Proofs.Ytdlebbmmanjffaa.L
end

section
set_option linter.unusedVariables false
set_option linter.unusedSimpArgs false
namespace Go.Proofs.Ytdlebbmmanjffaa.L
open Go Go.RowKit Go.Proofs.Ytdlebbmmanjffaa.A Go.Proofs.YtdlebbmmanjffaaW.PrintWords
def findJ (l : List Jg) (id : Int) : Int := fidx (fun j => decide (j.f0 = id)) l
theorem findJ_range (l : List Jg) (id : Int) : -1 ≤ findJ l id ∧ findJ l id < l.length := fidx_range _ l
theorem rdJg_int {l : List Jg} {i : Int} (h0 : 0 ≤ i) (h1 : i < l.length) : ∃ h : i.toNat < l.length, rd_T46 l i = l[i.toNat] := by
  refine ⟨by omega, ?_⟩
  obtain ⟨m, rfl⟩ : ∃ m : Nat, i = m := ⟨i.toNat, by omega⟩
  rw [rdJg (by omega)]
  simp
theorem rdJg_mem {l : List Jg} {i : Int} (h0 : 0 ≤ i) (h1 : i < l.length) : rd_T46 l i ∈ l := by
  obtain ⟨h, e⟩ := rdJg_int h0 h1
  rw [e]
  exact List.getElem_mem _
theorem l21Find_l0 (l : List Jg) (id : Int) (hl : l.length ≤ 1099511627776) : ∀ (d n : Nat), n + d = l.length → Ev (fun k => spec_l21Find.l0 k l id (n : Int)) (if findJ (l.drop n) id < 0 then -1 else n + findJ (l.drop n) id) := by
  intro d
  induction d with
  | zero =>
    intro n hd
    refine Ev.step (fun k => spec_l21Find.l0.eq_2 ..) ?_
    refine Ev.neg (by omega) (Ev.some_ ?_)
    rw [List.drop_eq_nil_of_le (by omega)]
    simp [findJ, fidx_nil]
  | succ d ih =>
    intro n hd
    refine Ev.step (fun k => spec_l21Find.l0.eq_2 ..) ?_
    refine Ev.pos (by omega) (Ev.pos (by omega) ?_)
    simp only [w64s (show n < 4611686018427387904 by omega), rdJg (show n < l.length by omega)]
    have h1 := ih (n + 1) (by omega)
    rw [List.drop_eq_getElem_cons (show n < l.length by omega)]
    generalize l.drop (n + 1) = u at h1 ⊢
    have hr := fidx_range (fun t : Jg => decide (t.f0 = id)) u
    refine Ev.ite (fun h => Ev.some_ ?_) (fun h => Ev.cast h1 ?_)
    · simp [findJ, fidx_cons, h]
    · have e : findJ (l[n] :: u) id = if findJ u id < 0 then -1 else findJ u id + 1 := by
        unfold findJ
        rw [fidx_cons, if_neg (by simpa using h)]
      rw [e]
      have hr' : -1 ≤ findJ u id := hr.1
      by_cases hu : findJ u id < 0
      · simp [hu]
      · have h2 : ¬ findJ u id + 1 < 0 := by omega
        rw [if_neg hu, if_neg hu, if_neg h2]
        omega
theorem l21Find_ev (l : List Jg) (id : Int) (hl : l.length ≤ 1099511627776) : Ev (fun k => spec_l21Find.f k l id) (findJ l id) := by
  unfold spec_l21Find.f
  refine Ev.cast (l21Find_l0 l id hl l.length 0 (by omega)) ?_
  have hr := findJ_range l id
  simp only [List.drop_zero]
  split <;> omega
def asOk (t : List Tm) (l : List Jg) : List S48 → List Int → List Int → Bool
  | p :: rs, id :: ids, seen =>
    if findJ l id < 0 then false
    else if id ∈ seen then false
    else if mayJ t (rd_T46 l (findJ l id)).f1 (rd_T46 l (findJ l id)).f2 p.f0 p.f1 = true then asOk t l rs ids (seen ++ [id]) else false
  | _, _, _ => true
theorem asF_ev (t : List Tm) (l : List Jg) (hs : Small t) (hj : SmallJ l) : ∀ (r : List S48) (ids seen : List Int), Ev (fun k => asF k t l r ids seen) (asOk t l r ids seen)
  | [], ids, seen => by simp only [asF, asOk]; exact Ev.now _
  | p :: rs, [], seen => by simp only [asF, asOk]; exact Ev.now _
  | p :: rs, id :: ids, seen => by
    have hr := findJ_range l id
    have e : fidx (fun j : Jg => decide (j.f0 = id)) l = findJ l id := rfl
    simp only [asF, asOk, e]
    refine Ev.ite (fun h => Ev.some_ (if_pos h).symm) (fun h => ?_)
    rw [if_neg h]
    refine Ev.ite (fun h2 => Ev.some_ (if_pos h2).symm) (fun h2 => ?_)
    rw [if_neg h2]
    refine Ev.bind (iMayJudge_ev t _ _ _ p.f0 p.f1 hs (hj.2 _ (rdJg_mem (by omega) hr.2))) ?_
    exact Ev.ite (fun h3 => Ev.cast (asF_ev t l hs hj rs ids (seen ++ [id])) (if_pos h3).symm) (fun h3 => Ev.some_ (if_neg h3).symm)
def seatedB (t : List Tm) (l : List Jg) (r : List S48) (ids : List Int) : Bool := decide (ids.length = r.length) && (okJudges l && asOk t l r ids [])
theorem iAreSeated_ev (t : List Tm) (l : List Jg) (hs : Small t) (hj : SmallJ l) (r : List S48) (ids : List Int) : Ev (fun k => impl_AreSeated.f k t l r ids) (seatedB t l r ids) := by
  unfold impl_AreSeated.f seatedB
  refine Ev.bind (iAreJudges_ev l hj) (Ev.ite (fun h => Ev.ite (fun h2 => Ev.cast (asF_ev t l hs hj r ids []) ?_) (fun h2 => Ev.some_ ?_)) (fun h => Ev.some_ ?_))
  · simp [h, h2]
  · simp [h2]
  · simp [h]
theorem sAreSeated_l0 (t : List Tm) (l : List Jg) (hs : Small t) (hj : SmallJ l) (r : List S48) (ids : List Int) (hl : r.length ≤ 1099511627776) (he : ids.length = r.length) : ∀ (d n : Nat), n + d = r.length → Ev (fun k => spec_AreSeated.l0 k t l r ids (n : Int)) (asOk t l (r.drop n) (ids.drop n) (ids.take n)) := by
  intro d
  induction d with
  | zero =>
    intro n hd
    refine Ev.step (fun k => spec_AreSeated.l0.eq_2 ..) ?_
    refine Ev.neg (by omega) (Ev.some_ ?_)
    rw [List.drop_eq_nil_of_le (show r.length ≤ n by omega)]
    simp only [asOk]
  | succ d ih =>
    intro n hd
    have hn : n < r.length := by omega
    have hm : n < ids.length := by omega
    refine Ev.step (fun k => spec_AreSeated.l0.eq_2 ..) ?_
    refine Ev.pos (by omega) (Ev.pos (by omega) (Ev.pos (by omega) ?_))
    have hid : rd ids (n : Int) = ids[n] := by simp [rd, hm]
    have h1 := ih (n + 1) (by omega)
    rw [List.take_succ_eq_append_getElem hm] at h1
    simp only [w64s (show n < 4611686018427387904 by omega), rdPair hn, hid, Int.toNat_natCast]
    rw [List.drop_eq_getElem_cons hn, List.drop_eq_getElem_cons hm, asOk]
    have hr := findJ_range l ids[n]
    refine Ev.bind (l21Find_ev l ids[n] hj.1) ?_
    refine Ev.ite (fun h => Ev.some_ (if_pos h).symm) (fun h => ?_)
    rw [if_neg h]
    refine Ev.pos (by omega) (Ev.bind (l4Has_ev _ _ (by rw [List.length_take]; omega)) ?_)
    refine Ev.ite (fun h2 => Ev.some_ (if_pos (of_decide_eq_true h2)).symm) (fun h2 => ?_)
    rw [if_neg (by simpa using h2)]
    refine Ev.pos (by omega) (Ev.pos hr.2 ?_)
    refine Ev.bind (sMayJudge_ev t _ _ _ _ _ hs (hj.2 _ (rdJg_mem (by omega) hr.2))) ?_
    exact Ev.ite (fun h3 => Ev.cast h1 (if_pos h3).symm) (fun h3 => Ev.some_ (if_neg h3).symm)
theorem sAreSeated_j0 (t : List Tm) (l : List Jg) (hs : Small t) (hj : SmallJ l) (r : List S48) (ids : List Int) (hl : r.length ≤ 1099511627776) (b : Bool) (hb : b = false → ids.length = r.length) : Ev (fun k => spec_AreSeated.j0 k t l r ids b) (!b && asOk t l r ids []) := by
  refine Ev.step (fun k => spec_AreSeated.j0.eq_2 ..) ?_
  cases b with
  | true => exact Ev.pos rfl (Ev.some_ rfl)
  | false => exact Ev.neg (by simp) (Ev.cast (sAreSeated_l0 t l hs hj r ids hl (hb rfl) r.length 0 (by omega)) (by simp))
theorem sAreSeated_ev (t : List Tm) (l : List Jg) (hs : Small t) (hj : SmallJ l) (r : List S48) (ids : List Int) (hl : r.length ≤ 1099511627776) : Ev (fun k => spec_AreSeated.f k t l r ids) (seatedB t l r ids) := by
  unfold spec_AreSeated.f seatedB
  refine Ev.ite (fun h => Ev.bind (sAreJudges_ev l hj) (Ev.cast (sAreSeated_j0 t l hs hj r ids hl _ (fun _ => by omega)) ?_)) (fun h => Ev.cast (sAreSeated_j0 t l hs hj r ids hl _ (fun h => by cases h)) ?_)
  · have : ids.length = r.length := by omega
    simp [this]
  · have : ¬ ids.length = r.length := by omega
    simp [this]
end Go.Proofs.Ytdlebbmmanjffaa.L
end

section
set_option linter.unusedVariables false
set_option linter.unusedSimpArgs false
namespace Go.Proofs.Ytdlebbmmanjffaa.L
open Go Go.RowKit Go.Proofs.Ytdlebbmmanjffaa.A Go.Proofs.YtdlebbmmanjffaaW.PrintWords
theorem FnExactAreSeated_pure (l0 : List S86) (l1 : List S38) (l2 : List S40) (l3 : List Int) (b0 : l0.length ≤ 9223372036854775807) (b1 : ∀ x ∈ l0, x.f5.length ≤ 9223372036854775807) (b2 : l1.length ≤ 9223372036854775807) (b3 : ∀ x ∈ l1, x.f2.length ≤ 9223372036854775807) (b4 : l2.length ≤ 9223372036854775807) (b5 : l3.length ≤ 9223372036854775807) : ∃ k, laws_FnExactAreSeated.f k l0 l1 l2 l3 = some true := by
  refine Ev.rounds (g := fun k => laws_FnExactAreSeated.f k l0 l1 l2 l3) ?_
  unfold laws_FnExactAreSeated.f
  refine Ev.ite (fun _ => Ev.now _) (fun h3 => ?_)
  obtain ⟨v, hv, hv1, hv2⟩ := szTeamS_ev l0 b0 b1
  refine Ev.bind hv (Ev.ite (fun _ => Ev.now _) (fun hs => ?_))
  obtain ⟨hl, hi⟩ := hv2 hs
  have hs := small_map l0 (by omega) (fun x hx => by have := hi x hx; omega)
  obtain ⟨u, hu, hu1, hu2⟩ := szJudgeS_ev l1 v ⟨by omega, hv1⟩ b2 b3
  refine Ev.bind hu (Ev.ite (fun _ => Ev.now _) (fun hs2 => ?_))
  obtain ⟨hl2, hi2⟩ := hu2 hs2
  have hj := smallJ_map l1 (by omega) (fun x hx => by have := hi2 x hx; omega)
  refine Ev.bnd (szPairS_eq l2 u (by omega) hu1 b4) (Ev.ite (fun _ => Ev.now _) (fun hs3 => ?_))
  have hl4 : l2.length ≤ 1048576 := by split at hs3 <;> omega
  have e0 := toTeamS_ev l0 (by omega) (fun x hx => by have := hi x hx; omega)
  have e1 := toJudgeS_ev l1 (by omega) (fun x hx => by have := hi2 x hx; omega)
  have e2 := toPairS_ev l2 (by omega)
  have e3 := toIntS_ev l3 (by omega)
  have hp : (l2.map cvPair).length ≤ 1099511627776 := by rw [List.length_map]; omega
  refine Ev.bind e0 (Ev.bind e1 (Ev.bind e2 (Ev.bind e3 ?_)))
  refine Ev.bind (sAreSeated_ev _ _ hs hj _ _ hp) ?_
  refine Ev.bind e0 (Ev.bind e1 (Ev.bind e2 (Ev.bind e3 ?_)))
  refine Ev.bind (iAreSeated_ev _ _ hs hj _ _) ?_
  refine Ev.neg (by simp) ?_
  refine Ev.bind e0 (Ev.bind (eqTeamS_ev _ hs) (Ev.pos rfl ?_))
  refine Ev.bind e1 (Ev.bind (eqJudgeS_ev _ hj) (Ev.pos rfl ?_))
  refine Ev.bind e2 (Ev.bind (eqPairS_ev _ hp) (Ev.pos rfl ?_))
  refine Ev.bind e3 (Ev.bind (eqIntS_ev _ _ (by omega)) (Ev.pos (by simp) (Ev.now _)))
end Go.Proofs.Ytdlebbmmanjffaa.L
end
