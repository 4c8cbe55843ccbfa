/- What the row FnExactSeatJudges rests on, put together: LMayJ, LTeam2, LSeat, LSeatJ, LPair, LMark, LMarkP, LTotLe, LXFnExactSeatJudges. No condition. -/
import Derived.Test.YtdlebbmmanjffaaSFnExactSeatJudgesx1
import Derived.Test.YtdlebbmmanjffaaSFnExactSeatJudgesx4
import Derived.Test.YtdlebbmmanjffaaSFnExactSeatJudgesx2
import Derived.Test.YtdlebbmmanjffaaSFnExactSeatJudgesx3
import Derived.Test.YtdlebbmmanjffaaSFnExactSeatJudgesx0
section
set_option linter.unusedVariables false
set_option linter.unusedSimpArgs false
namespace Go.Proofs.Ytdlebbmmanjffaa.L
open Go Go.RowKit Go.Proofs.Ytdlebbmmanjffaa.A Go.Proofs.YtdlebbmmanjffaaW.PrintWords
def mayOne (l : List Tm) (club : Int) (seen : List Int) (id : Int) : Bool := decide (0 ≤ findT l id ∧ ¬ (rd_T78 l (findT l id)).f1 = club ∧ ¬ id ∈ seen)
def mayJ (l : List Tm) (club : Int) (seen : List Int) (a b : Int) : Bool := mayOne l club seen a && mayOne l club seen b
theorem sMayJudge_ev (l : List Tm) (id club : Int) (seen : List Int) (a b : Int) (hs : Small l) (hj : seen.length ≤ 1099511627776) : Ev (fun k => spec_MayJudge.f k l id club seen a b) (mayJ l club seen a b) := by
  unfold spec_MayJudge.f
  have r0 := findT_range l a
  have r1 := findT_range l b
  refine Ev.bind (sFindTeam_ev l a hs.1) (Ev.bind (sFindTeam_ev l b hs.1) (Ev.ite (fun h => Ev.ite (fun h2 => ?_) (fun h2 => Ev.some_ ?_)) (fun h => Ev.some_ ?_)))
  · refine Ev.pos (by omega) (Ev.pos r0.2 (Ev.ite (fun h3 => Ev.some_ ?_) (fun h3 => Ev.pos (by omega) (Ev.pos r1.2 (Ev.ite (fun h4 => Ev.some_ ?_) (fun h4 => Ev.bind (l4Has_ev seen a hj) (Ev.ite (fun h5 => Ev.some_ ?_) (fun h5 => Ev.bind (l4Has_ev seen b hj) (Ev.some_ ?_)))))))))
    · simp [mayJ, mayOne, h3]
    · simp [mayJ, mayOne, h4]
    · have : a ∈ seen := by simpa using h5
      simp [mayJ, mayOne, this]
    · have h6 : ¬ a ∈ seen := by simpa using h5
      have h0 : 0 ≤ findT l a := by omega
      have h1 : 0 ≤ findT l b := by omega
      simp [mayJ, mayOne, h0, h1, h3, h4, h6]
  · have : ¬ 0 ≤ findT l b := by omega
    simp [mayJ, mayOne, this]
  · have : ¬ 0 ≤ findT l a := by omega
    simp [mayJ, mayOne, this]
theorem iMayJ_l0 (l : List Tm) (id club : Int) (seen : List Int) (xs : List Int) (hs : Small l) (hj : seen.length ≤ 1099511627776) (hx : xs.length ≤ 1099511627776) : ∀ (d n : Nat), n + d = xs.length → Ev (fun k => impl_MayJudge.l0 k l xs (xs.length : Int) (n : Int) id club seen) ((xs.drop n).all fun a => mayOne l club seen a) := by
  intro d
  induction d with
  | zero =>
    intro n hd
    refine Ev.step (fun k => impl_MayJudge.l0.eq_2 ..) (Ev.neg (by omega) (Ev.some_ ?_))
    rw [List.drop_eq_nil_of_le (by omega)]
    rfl
  | succ d ih =>
    intro n hd
    refine Ev.step (fun k => impl_MayJudge.l0.eq_2 ..) (Ev.pos (by omega) (Ev.pos (by omega) (Ev.pos (by omega) ?_)))
    simp only [w64s (show n < 4611686018427387904 by omega), rd_at (show n < xs.length by omega)]
    have h1 := ih (n + 1) (by omega)
    rw [List.drop_eq_getElem_cons (show n < xs.length by omega)]
    generalize xs.drop (n + 1) = u at h1 ⊢
    have r0 := findT_range l xs[n]
    refine Ev.bnd (iFindTeam_eq l _) (Ev.ite (fun h => Ev.some_ ?_) (fun h => Ev.pos (by omega) (Ev.pos r0.2 (Ev.ite (fun h3 => Ev.some_ ?_) (fun h3 => Ev.bind (Contains_ev seen _ hj) (Ev.ite (fun h4 => Ev.some_ ?_) (fun h4 => Ev.cast h1 ?_)))))))
    · have : ¬ 0 ≤ findT l xs[n] := by omega
      simp [mayOne, this]
    · simp [mayOne, h3]
    · have : xs[n] ∈ seen := by simpa using h4
      simp [mayOne, this]
    · have h6 : ¬ xs[n] ∈ seen := by simpa using h4
      have h0 : 0 ≤ findT l xs[n] := by omega
      simp [mayOne, h0, h3, h6]
theorem iMayJudge_ev (l : List Tm) (id club : Int) (seen : List Int) (a b : Int) (hs : Small l) (hj : seen.length ≤ 1099511627776) : Ev (fun k => impl_MayJudge.f k l id club seen a b) (mayJ l club seen a b) := by
  unfold impl_MayJudge.f
  refine Ev.bnd rfl (Ev.cast (iMayJ_l0 l id club seen [a, b] hs hj (by simp) 2 0 rfl) ?_)
  simp [mayJ]
end Go.Proofs.Ytdlebbmmanjffaa.L
end

section
set_option linter.unusedVariables false
set_option linter.unusedSimpArgs false
namespace Go.Proofs.Ytdlebbmmanjffaa.L
open Go Go.RowKit Go.Proofs.Ytdlebbmmanjffaa.A Go.Proofs.YtdlebbmmanjffaaW.PrintWords
theorem sAreTeams_ev (l : List Tm) (hs : Small l) : Ev (fun k => spec_AreTeams.f k l) (areT l) := by
  unfold spec_AreTeams.f
  exact Ev.pos (of_small hs) (Ev.now _)
theorem iAreTeams_ev (l : List Tm) (hs : Small l) : Ev (fun k => impl_AreTeams.f k l) (areT l) := by
  unfold impl_AreTeams.f
  exact Ev.pos (of_small hs) (Ev.now _)
end Go.Proofs.Ytdlebbmmanjffaa.L
end

section
set_option linter.unusedVariables false
set_option linter.unusedSimpArgs false
namespace Go.Proofs.Ytdlebbmmanjffaa.L
open Go Go.RowKit Go.Proofs.Ytdlebbmmanjffaa.A Go.Proofs.YtdlebbmmanjffaaW.PrintWords
abbrev Pr := S48
def seatL (g : List Int → List Int × Bool) (ok : Jg → Bool) (used : List Int) : List Jg → List Int × Bool
  | [] => ([], false)
  | j :: js => if j.f0 ∈ used then seatL g ok used js else if ok j = true then (if (g (used ++ [j.f0])).2 = true then (j.f0 :: (g (used ++ [j.f0])).1, true) else seatL g ok used js) else seatL g ok used js
def seatR (t : List Tm) (l : List Jg) : List Pr → List Int → List Int × Bool
  | [], _ => ([], true)
  | p :: r, used => seatL (seatR t l r) (fun j => mayJ t j.f1 j.f2 p.f0 p.f1) used l
theorem seatL_len (g : List Int → List Int × Bool) (ok : Jg → Bool) (used : List Int) (m : Nat) (hg : ∀ u, (g u).1.length ≤ m) : ∀ l : List Jg, (seatL g ok used l).1.length ≤ m + 1
  | [] => by simp [seatL]
  | j :: js => by
    have := seatL_len g ok used m hg js
    simp only [seatL]
    split
    · exact this
    · split
      · split
        · have := hg (used ++ [j.f0])
          simp only [List.length_cons]; omega
        · exact this
      · exact this
theorem seatR_len (t : List Tm) (l : List Jg) : ∀ (r : List Pr) (used : List Int), (seatR t l r used).1.length ≤ r.length
  | [], _ => by simp [seatR]
  | p :: r, used => seatL_len _ _ _ r.length (seatR_len t l r) l
theorem rdPr0 {p : Pr} {r : List Pr} : rd_T48 (p :: r) 0 = p := by simp [rd_T48]
theorem sSeat_l0 (t : List Tm) (l : List Jg) (hs : Small t) (hj : SmallJ l) (p : Pr) (r : List Pr) (used : List Int) (hu : r.length ≤ 1099511627776)
    (ih : ∀ u : List Int, u.length ≤ used.length + 1 → Ev (fun k => spec_l21Search.f k t l r u) (seatR t l r u)) (hr : used.length ≤ 1099511627776) :
    ∀ (d n : Nat), n + d = l.length → Ev (fun k => spec_l21Search.l0 k t l (p :: r) used (n : Int)) (seatL (seatR t l r) (fun j => mayJ t j.f1 j.f2 p.f0 p.f1) used (l.drop n)) := by
  intro d
  have hlen := hj.1
  induction d with
  | zero =>
    intro n hd
    refine Ev.step (fun k => spec_l21Search.l0.eq_2 ..) (Ev.neg (by omega) (Ev.some_ ?_))
    rw [List.drop_eq_nil_of_le (by omega)]
    rfl
  | succ d ihd =>
    intro n hd
    have hn : n < l.length := by omega
    have hrest := ihd (n + 1) (by omega)
    have hjt : Ev (fun k => spec_l21Search.j1 k t l (p :: r) used (n : Int) true) (seatL (seatR t l r) (fun j => mayJ t j.f1 j.f2 p.f0 p.f1) used (l.drop (n + 1))) := by
      refine Ev.step (fun k => spec_l21Search.j1.eq_2 ..) (Ev.pos rfl ?_)
      rw [w64s (show n < 4611686018427387904 by omega)]
      exact hrest
    refine Ev.step (fun k => spec_l21Search.l0.eq_2 ..) (Ev.pos (by omega) (Ev.pos (by omega) ?_))
    simp only [rdJg hn, rdPr0]
    refine Ev.bind (l4Has_ev _ _ hr) ?_
    rw [List.drop_eq_getElem_cons hn, seatL]
    refine Ev.ite (fun h => ?_) (fun h => ?_)
    · rw [if_pos (of_decide_eq_true h)]
      exact hjt
    · rw [if_neg (by simpa using h)]
      refine Ev.pos (by simp) (Ev.bind (sMayJudge_ev t l[n].f0 l[n].f1 l[n].f2 p.f0 p.f1 hs (hj.2 _ (List.getElem_mem hn))) ?_)
      cases hm : mayJ t l[n].f1 l[n].f2 p.f0 p.f1 with
      | false =>
        rw [if_neg (by simp)]
        exact hjt
      | true =>
        rw [if_pos rfl]
        refine Ev.step (fun k => spec_l21Search.j1.eq_2 ..) (Ev.neg (by simp) (Ev.pos (by simp; omega) ?_))
        simp only [rdJg hn, w64s (show n < 4611686018427387904 by omega), List.drop_succ_cons, List.drop_zero, Option.bind_some, List.nil_append, Int.toNat_one]
        refine Ev.pos (by simp; omega) (Ev.pos (by omega) (Ev.pos (by omega) (Ev.pos (by simp; omega) ?_)))
        have hlr := seatR_len t l r (used ++ [l[n].f0])
        refine Ev.bind (ih (used ++ [l[n].f0]) (by simp)) ?_
        refine Ev.ite (fun h2 => ?_) (fun h2 => ?_)
        · rw [if_pos h2]
          exact Ev.pos (by simp; omega) (Ev.now _)
        · rw [if_neg h2]
          exact hrest
theorem sSeat_ev (t : List Tm) (l : List Jg) (hs : Small t) (hj : SmallJ l) : ∀ (r : List Pr) (used : List Int), used.length + r.length ≤ 1048576 → Ev (fun k => spec_l21Search.f k t l r used) (seatR t l r used)
  | [], used, h => Ev.step (fun k => spec_l21Search.f.eq_2 ..) (Ev.pos (by simp) (Ev.now _))
  | p :: r, used, h => by
    simp only [List.length_cons] at h
    refine Ev.step (fun k => spec_l21Search.f.eq_2 ..) (Ev.neg (by simp; omega) ?_)
    have := sSeat_l0 t l hs hj p r used (by omega) (fun u hu => sSeat_ev t l hs hj r u (by omega)) (by omega) l.length 0 (by omega)
    simpa [seatR] using this
theorem iSeat_l0 (t : List Tm) (l : List Jg) (hs : Small t) (hj : SmallJ l) (p : Pr) (r : List Pr) (used : List Int) (hu : r.length ≤ 1099511627776)
    (ih : ∀ u : List Int, u.length ≤ used.length + 1 → Ev (fun k => impl_seated.f k t l r u) (seatR t l r u)) (hr : used.length ≤ 1099511627776) :
    ∀ (d n : Nat), n + d = l.length → Ev (fun k => impl_seated.l0 k t l (p :: r) used l (l.length : Int) (n : Int)) (seatL (seatR t l r) (fun j => mayJ t j.f1 j.f2 p.f0 p.f1) used (l.drop n)) := by
  intro d
  have hlen := hj.1
  induction d with
  | zero =>
    intro n hd
    refine Ev.step (fun k => impl_seated.l0.eq_2 ..) (Ev.neg (by omega) (Ev.some_ ?_))
    rw [List.drop_eq_nil_of_le (by omega)]
    rfl
  | succ d ihd =>
    intro n hd
    have hn : n < l.length := by omega
    have hrest := ihd (n + 1) (by omega)
    have hjt : ∀ (a b : Int) (c : List Int), Ev (fun k => impl_seated.j1 k t l (p :: r) used l (l.length : Int) (n : Int) true a b c) (seatL (seatR t l r) (fun j => mayJ t j.f1 j.f2 p.f0 p.f1) used (l.drop (n + 1))) := by
      intro a b c
      refine Ev.step (fun k => impl_seated.j1.eq_2 ..) (Ev.pos rfl ?_)
      rw [w64s (show n < 4611686018427387904 by omega)]
      exact hrest
    refine Ev.step (fun k => impl_seated.l0.eq_2 ..) (Ev.pos (by omega) (Ev.pos (by omega) (Ev.pos (by omega) ?_)))
    simp only [rdJg hn, rdPr0]
    refine Ev.bind (Contains_ev _ _ hr) ?_
    rw [List.drop_eq_getElem_cons hn, seatL]
    refine Ev.ite (fun h => ?_) (fun h => ?_)
    · rw [if_pos (of_decide_eq_true h)]
      exact hjt _ _ _
    · rw [if_neg (by simpa using h)]
      refine Ev.pos (by simp) (Ev.bind (iMayJudge_ev t l[n].f0 l[n].f1 l[n].f2 p.f0 p.f1 hs (hj.2 _ (List.getElem_mem hn))) ?_)
      cases hm : mayJ t l[n].f1 l[n].f2 p.f0 p.f1 with
      | false =>
        rw [if_neg (by simp)]
        exact hjt _ _ _
      | true =>
        rw [if_pos rfl]
        refine Ev.step (fun k => impl_seated.j1.eq_2 ..) (Ev.neg (by simp) (Ev.pos (by simp; omega) ?_))
        simp only [w64s (show n < 4611686018427387904 by omega), List.drop_succ_cons, List.drop_zero]
        refine Ev.bnd (a := used) (by unfold slices_Clone_int_int.f; exact if_pos (by omega)) (Ev.bnd (a := [l[n].f0]) rfl (Ev.pos (by simp; omega) ?_))
        have hlr := seatR_len t l r (used ++ [l[n].f0])
        refine Ev.bind (ih (used ++ [l[n].f0]) (by simp)) ?_
        refine Ev.ite (fun h2 => ?_) (fun h2 => ?_)
        · rw [if_pos h2]
          exact Ev.bnd (a := [l[n].f0]) rfl (Ev.pos (by simp; omega) (Ev.now _))
        · rw [if_neg h2]
          exact hrest
theorem iSeat_ev (t : List Tm) (l : List Jg) (hs : Small t) (hj : SmallJ l) : ∀ (r : List Pr) (used : List Int), used.length + r.length ≤ 1048576 → Ev (fun k => impl_seated.f k t l r used) (seatR t l r used)
  | [], used, h => Ev.step (fun k => impl_seated.f.eq_2 ..) (Ev.pos (by simp) (Ev.now _))
  | p :: r, used, h => by
    simp only [List.length_cons] at h
    refine Ev.step (fun k => impl_seated.f.eq_2 ..) (Ev.neg (by simp; omega) ?_)
    have := iSeat_l0 t l hs hj p r used (by omega) (fun u hu => iSeat_ev t l hs hj r u (by omega)) (by omega) l.length 0 (by omega)
    simpa [seatR] using this
end Go.Proofs.Ytdlebbmmanjffaa.L
end

section
set_option linter.unusedVariables false
set_option linter.unusedSimpArgs false
namespace Go.Proofs.Ytdlebbmmanjffaa.L
open Go Go.RowKit Go.Proofs.Ytdlebbmmanjffaa.A Go.Proofs.YtdlebbmmanjffaaW.PrintWords
theorem nodup_sub_length : ∀ (x y : List Int), x.Nodup → (∀ i ∈ x, i ∈ y) → x.length ≤ y.length
  | [], _, _, _ => Nat.zero_le _
  | a :: x, y, hn, hs => by
    have ha : a ∈ y := hs a List.mem_cons_self
    rw [List.nodup_cons] at hn
    have h1 := nodup_sub_length x (y.erase a) hn.2 (fun i hi => (List.mem_erase_of_ne (fun e => hn.1 (by rw [← e]; exact hi))).2 (hs i (List.mem_cons_of_mem _ hi)))
    rw [List.length_erase_of_mem ha] at h1
    have h2 : 0 < y.length := List.length_pos_of_mem ha
    simp only [List.length_cons]
    omega
def Good (ids used : List Int) (m : Nat) (y : List Int × Bool) : Prop := (y.2 = true → y.1.length = m ∧ y.1.Nodup ∧ ∀ i ∈ y.1, i ∈ ids ∧ i ∉ used) ∧ (y.2 = false → y.1 = [])
theorem seatL_good (ids : List Int) (g : List Int → List Int × Bool) (ok : Jg → Bool) (used : List Int) (m : Nat) (hg : ∀ u, Good ids u m (g u)) : ∀ l : List Jg, (∀ j ∈ l, j.f0 ∈ ids) → Good ids used (m + 1) (seatL g ok used l)
  | [], _ => ⟨fun h => by simp [seatL] at h, fun _ => rfl⟩
  | j :: js, hl => by
    have ih := seatL_good ids g ok used m hg js (fun x hx => hl x (List.mem_cons_of_mem _ hx))
    simp only [seatL]
    split
    · exact ih
    · rename_i hu
      split
      · split
        · rename_i h2
          obtain ⟨h3, h4, h5⟩ := (hg (used ++ [j.f0])).1 h2
          refine ⟨fun _ => ⟨by simp [h3], ?_, fun i hi => ?_⟩, fun h => by cases h⟩
          · rw [List.nodup_cons]
            exact ⟨fun h => (h5 _ h).2 (by simp), h4⟩
          · rcases List.mem_cons.1 hi with rfl | hi
            · exact ⟨hl j List.mem_cons_self, hu⟩
            · exact ⟨(h5 i hi).1, fun h => (h5 i hi).2 (by simp [h])⟩
        · exact ih
      · exact ih
theorem seatR_good (t : List Tm) (l : List Jg) : ∀ (r : List Pr) (used : List Int), Good (l.map (fun j => j.f0)) used r.length (seatR t l r used)
  | [], used => ⟨fun _ => ⟨rfl, List.nodup_nil, fun i hi => by cases hi⟩, fun h => by cases h⟩
  | p :: r, used => seatL_good _ _ _ used r.length (seatR_good t l r) l (fun j hj => List.mem_map.2 ⟨j, hj, rfl⟩)
theorem seatR_over (t : List Tm) (l : List Jg) (r : List Pr) (h : l.length < r.length) : seatR t l r [] = ([], false) := by
  have hg := seatR_good t l r []
  cases e : (seatR t l r []).2 with
  | true =>
    obtain ⟨h1, h2, h3⟩ := hg.1 e
    have := nodup_sub_length _ (l.map (fun j => j.f0)) h2 (fun i hi => (h3 i hi).1)
    rw [h1, List.length_map] at this
    omega
  | false => exact Prod.ext (hg.2 e) e
def seatT (t : List Tm) (l : List Jg) (r : List Pr) : List Int × Bool := if okJudges l = true ∧ areT t = true then seatR t l r [] else ([], false)
theorem seatT_len (t : List Tm) (l : List Jg) (r : List Pr) : (seatT t l r).1.length ≤ r.length := by
  unfold seatT
  split
  · exact seatR_len t l r []
  · simp
theorem sSeatJ_ev (t : List Tm) (l : List Jg) (r : List Pr) (hs : Small t) (hj : SmallJ l) (hr : r.length ≤ 1048576) : Ev (fun k => spec_SeatJudges.f k t l r) (seatT t l r) := by
  unfold spec_SeatJudges.f seatT
  refine Ev.bind (sAreJudges_ev l hj) ?_
  refine Ev.ite (fun h1 => ?_) (fun h1 => Ev.some_ (if_neg (fun h => h1 h.1)).symm)
  refine Ev.bind (sAreTeams_ev t hs) ?_
  refine Ev.ite (fun h2 => ?_) (fun h2 => Ev.some_ (if_neg (fun h => h2 h.2)).symm)
  exact Ev.bind (sSeat_ev t l hs hj r [] (by simpa using hr)) (Ev.some_ (if_pos ⟨h1, h2⟩).symm)
theorem iSeatJ_ev (t : List Tm) (l : List Jg) (r : List Pr) (hs : Small t) (hj : SmallJ l) (hr : r.length ≤ 1048576) : Ev (fun k => impl_SeatJudges.f k t l r) (seatT t l r) := by
  unfold impl_SeatJudges.f seatT
  refine Ev.bind (iAreJudges_ev l hj) ?_
  refine Ev.ite (fun h1 => ?_) (fun h1 => Ev.some_ (if_neg (fun h => h1 h.1)).symm)
  refine Ev.bind (iAreTeams_ev t hs) ?_
  refine Ev.ite (fun h2 => ?_) (fun h2 => Ev.some_ (if_neg (fun h => h2 h.2)).symm)
  refine Ev.ite (fun h3 => Ev.some_ ?_) (fun h3 => ?_)
  · rw [if_pos ⟨h1, h2⟩, seatR_over t l r (by omega)]
  · exact Ev.bind (iSeat_ev t l hs hj r [] (by simpa using hr)) (Ev.some_ (if_pos ⟨h1, h2⟩).symm)
end Go.Proofs.Ytdlebbmmanjffaa.L
end

section
set_option linter.unusedVariables false
set_option linter.unusedSimpArgs false
namespace Go.Proofs.Ytdlebbmmanjffaa.L
open Go Go.RowKit Go.Proofs.Ytdlebbmmanjffaa.A Go.Proofs.YtdlebbmmanjffaaW.PrintWords
theorem rdLPair {l : List S40} {n : Nat} (h : n < l.length) : rd_T40 l (n : Int) = l[n] := by
  simp [rd_T40, h]
theorem rdPair {l : List S48} {n : Nat} (h : n < l.length) : rd_T48 l (n : Int) = l[n] := by
  simp [rd_T48, h]
def cvPair (x : S40) : S48 := ⟨x.f0, x.f1⟩
theorem toPairS_l0 (l : List S40) (hl : l.length ≤ 1099511627776) : ∀ (d n : Nat) (xs : List S48), n + d = l.length → xs.length = l.length → xs.take n = (l.map cvPair).take n → Ev (fun k => laws_toPairS.l0 k l xs (n : Int)) (l.map cvPair) := by
  intro d
  induction d with
  | zero =>
    intro n xs hd hx ht
    refine Ev.step (fun k => laws_toPairS.l0.eq_2 ..) ?_
    refine Ev.neg (by omega) (Ev.some_ ?_)
    rw [List.take_of_length_le (by omega), List.take_of_length_le (by simp; omega)] at ht
    exact ht
  | succ d ih =>
    intro n xs hd hx ht
    refine Ev.step (fun k => laws_toPairS.l0.eq_2 ..) ?_
    refine Ev.pos (by omega) (Ev.pos (by omega) ?_)
    simp only [laws_toPair.f, Option.bind_some]
    refine Ev.pos (by omega) ?_
    simp only [w64s (show n < 4611686018427387904 by omega), rdLPair (show n < l.length by omega), Int.toNat_natCast]
    refine ih (n + 1) _ (by omega) (by simp [hx]) ?_
    rw [List.take_succ_eq_append_getElem (by simp; omega), List.take_succ_eq_append_getElem (by simp; omega), List.take_set_of_le (by omega), ht]
    simp [cvPair]
theorem toPairS_ev (l : List S40) (hl : l.length ≤ 1099511627776) : Ev (fun k => laws_toPairS.f k l) (l.map cvPair) := by
  unfold laws_toPairS.f
  refine Ev.pos (by omega) (Ev.pos (by simp; omega) ?_)
  exact toPairS_l0 l hl l.length 0 _ (by omega) (by simp) (by simp)
theorem eqPair_same (x : S48) : laws_eqPair.f x.f0 x.f1 x.f0 x.f1 = some true := by simp [laws_eqPair.f]
theorem eqPairS_l0 (l : List S48) (hl : l.length ≤ 1099511627776) : ∀ (d n : Nat), n + d = l.length → Ev (fun k => laws_eqPairS.l0 k l l (n : Int)) true := by
  intro d
  induction d with
  | zero =>
    intro n hd
    refine Ev.step (fun k => laws_eqPairS.l0.eq_2 ..) ?_
    exact Ev.neg (by omega) (Ev.now _)
  | succ d ih =>
    intro n hd
    refine Ev.step (fun k => laws_eqPairS.l0.eq_2 ..) ?_
    refine Ev.pos (by omega) (Ev.pos (by omega) (Ev.pos (by omega) ?_))
    simp only [w64s (show n < 4611686018427387904 by omega), rdPair (show n < l.length by omega), eqPair_same, Option.bind_some]
    exact Ev.pos trivial (ih (n + 1) (by omega))
theorem eqPairS_ev (l : List S48) (hl : l.length ≤ 1099511627776) : Ev (fun k => laws_eqPairS.f k l l) true := by
  unfold laws_eqPairS.f
  exact Ev.pos rfl (eqPairS_l0 l hl l.length 0 (by omega))
theorem szPairS_eq (l : List S40) (left : Int) (h0 : 0 ≤ left) (h1 : left ≤ 1048576) (hl : l.length ≤ 9223372036854775807) : laws_szPairS.f l left = some (if left - l.length < 0 then -1 else left - l.length) := by
  unfold laws_szPairS.f
  rw [w64 (by omega) (by omega)]
  split <;> rfl
end Go.Proofs.Ytdlebbmmanjffaa.L
end

section
set_option linter.unusedVariables false
set_option linter.unusedSimpArgs false
namespace Go.Proofs.Ytdlebbmmanjffaa.L
open Go Go.RowKit Go.Proofs.Ytdlebbmmanjffaa.A Go.Proofs.YtdlebbmmanjffaaW.PrintWords
def ups : Nat → Int → List Int
  | 0, _ => []
  | n + 1, k => k :: ups n (k + 1)
theorem ups_length : ∀ (n : Nat) (k : Int), (ups n k).length = n
  | 0, _ => rfl
  | n + 1, k => by simp [ups, ups_length n]
theorem ups_get : ∀ (n : Nat) (k : Int) (i : Nat) (h : i < n), (ups n k)[i]'(by rw [ups_length]; exact h) = k + i
  | n + 1, k, 0, _ => by simp [ups]
  | n + 1, k, i + 1, h => by
    simp only [ups, List.getElem_cons_succ]
    rw [ups_get n (k + 1) i (by omega)]
    omega
theorem markIntS_l0 (k0 : Int) (N : Nat) (h0 : 0 ≤ k0) (h1 : k0 ≤ 1099511627776) (hN : N ≤ 1099511627776) : ∀ (d n : Nat) (xs : List Int), n + d = N → xs.length = N → xs.take n = (ups N k0).take n → Ev (fun k => laws_markIntS.l0 k xs (k0 + n) (n : Int)) (k0 + N, ups N k0) := by
  intro d
  induction d with
  | zero =>
    intro n xs hd hx ht
    refine Ev.step (fun k => laws_markIntS.l0.eq_2 ..) ?_
    refine Ev.neg (by omega) (Ev.some_ ?_)
    rw [List.take_of_length_le (by omega), List.take_of_length_le (by rw [ups_length]; omega)] at ht
    rw [ht, show n = N by omega]
  | succ d ih =>
    intro n xs hd hx ht
    refine Ev.step (fun k => laws_markIntS.l0.eq_2 ..) ?_
    refine Ev.pos (by omega) (Ev.pos (by omega) ?_)
    have e : wrap64 (k0 + (n : Int) + 1) = k0 + ((n + 1 : Nat) : Int) := by rw [w64 (by omega) (by omega)]; omega
    simp only [w64s (show n < 4611686018427387904 by omega), e, Int.toNat_natCast]
    refine ih (n + 1) _ (by omega) (by simp [hx]) ?_
    rw [List.take_succ_eq_append_getElem (by simp; omega), List.take_succ_eq_append_getElem (by rw [ups_length]; omega), List.take_set_of_le (by omega), ht, ups_get N k0 n (by omega)]
    simp
theorem markIntS_ev (l : List Int) (k0 : Int) (h0 : 0 ≤ k0) (h1 : k0 ≤ 1099511627776) (hN : l.length ≤ 1099511627776) : Ev (fun k => laws_markIntS.f k l k0) (k0 + l.length, ups l.length k0) := by
  unfold laws_markIntS.f
  have := markIntS_l0 k0 l.length h0 h1 hN l.length 0 l (by omega) rfl (by simp)
  simpa using this
theorem heldIntS_l0 (k0 : Int) (N : Nat) (h0 : 0 ≤ k0) (h1 : k0 ≤ 1099511627776) (hN : N ≤ 1099511627776) : ∀ (d n : Nat), n + d = N → Ev (fun k => laws_heldIntS.l0 k (ups N k0) (k0 + n) (n : Int)) (k0 + N) := by
  intro d
  induction d with
  | zero =>
    intro n hd
    refine Ev.step (fun k => laws_heldIntS.l0.eq_2 ..) ?_
    refine Ev.neg (by rw [ups_length]; omega) (Ev.some_ ?_)
    rw [show n = N by omega]
  | succ d ih =>
    intro n hd
    refine Ev.step (fun k => laws_heldIntS.l0.eq_2 ..) ?_
    refine Ev.pos (by rw [ups_length]; omega) (Ev.pos (by omega) ?_)
    have e : wrap64 (k0 + (n : Int) + 1) = k0 + ((n + 1 : Nat) : Int) := by rw [w64 (by omega) (by omega)]; omega
    simp only [w64s (show n < 4611686018427387904 by omega), e, rd_at (show n < (ups N k0).length by rw [ups_length]; omega), ups_get N k0 n (show n < N by omega)]
    exact Ev.pos trivial (ih (n + 1) (by omega))
theorem heldIntS_ev (N : Nat) (k0 : Int) (h0 : 0 ≤ k0) (h1 : k0 ≤ 1099511627776) (hN : N ≤ 1099511627776) : Ev (fun k => laws_heldIntS.f k (ups N k0) k0) (k0 + N) := by
  unfold laws_heldIntS.f
  have := heldIntS_l0 k0 N h0 h1 hN N 0 (by omega)
  simpa using this
end Go.Proofs.Ytdlebbmmanjffaa.L
end

section
set_option linter.unusedVariables false
set_option linter.unusedSimpArgs false
namespace Go.Proofs.Ytdlebbmmanjffaa.L
open Go Go.RowKit Go.Proofs.Ytdlebbmmanjffaa.A Go.Proofs.YtdlebbmmanjffaaW.PrintWords
theorem markPairS_l0 (k0 : Int) (N : Nat) (h0 : 0 ≤ k0) (h1 : k0 ≤ 2305843009213693952) (hN : N ≤ 1099511627776) : ∀ (d n : Nat) (xs : List S48), n + d = N → xs.length = N → ∃ ys : List S48, ys.length = N ∧ Ev (fun k => laws_markPairS.l0 k xs (k0 + 2 * n) (n : Int)) (k0 + 2 * N, ys) := by
  intro d
  induction d with
  | zero =>
    intro n xs hd hx
    refine ⟨xs, hx, Ev.step (fun k => laws_markPairS.l0.eq_2 ..) (Ev.neg (by omega) (Ev.some_ ?_))⟩
    have : n = N := by omega
    rw [this]
  | succ d ih =>
    intro n xs hd hx
    obtain ⟨ys, hy, hv⟩ := ih (n + 1) ((xs.set (n : Int).toNat (⟨k0 + 2 * n, (rd_T48 xs n).f1⟩ : S48)).set (n : Int).toNat (⟨(rd_T48 (xs.set (n : Int).toNat (⟨k0 + 2 * n, (rd_T48 xs n).f1⟩ : S48)) n).f0, wrap64 ((k0 + 2 * n) + 1)⟩ : S48)) (by omega) (by simp [hx])
    refine ⟨ys, hy, Ev.step (fun k => laws_markPairS.l0.eq_2 ..) (Ev.pos (by omega) (Ev.pos (by omega) (Ev.bnd rfl ?_)))⟩
    rw [w64s (show n < 4611686018427387904 by omega), w64 (x := wrap64 (k0 + 2 * (n : Int) + 1) + 1) (by unfold wrap64; omega) (by unfold wrap64; omega), show wrap64 (k0 + 2 * (n : Int) + 1) + 1 = k0 + 2 * ((n + 1 : Nat) : Int) by unfold wrap64; omega]
    exact hv
theorem markPairS_ev (l : List S48) (k0 : Int) (h0 : 0 ≤ k0) (h1 : k0 ≤ 2305843009213693952) (hl : l.length ≤ 1099511627776) : ∃ ys : List S48, ys.length = l.length ∧ Ev (fun k => laws_markPairS.f k l k0) (k0 + 2 * l.length, ys) := by
  have := markPairS_l0 k0 l.length h0 h1 hl l.length 0 l (by omega) rfl
  simpa [laws_markPairS.f] using this
end Go.Proofs.Ytdlebbmmanjffaa.L
end

section
set_option linter.unusedVariables false
namespace Go.Proofs.Ytdlebbmmanjffaa.M
theorem tot_le (m B : Nat) : ∀ ns : List Nat, (∀ n ∈ ns, n ≤ B) → tot m ns ≤ ns.length * (m + B)
  | [], _ => by simp [tot]
  | n :: r, h => by
    have h1 := tot_le m B r (fun x hx => h x (List.mem_cons_of_mem _ hx))
    have h2 := h n List.mem_cons_self
    simp only [tot, List.length_cons, Nat.succ_mul]
    omega
theorem tot_small {α : Type} (m : Nat) (hm : m ≤ 5) (f : α → Nat) (l : List α) (hl : l.length ≤ 1048576) (hf : ∀ x ∈ l, f x ≤ 1048576) : tot m (l.map f) ≤ 1099516870656 := by
  have h := tot_le m 1048576 (l.map f) (by simpa using hf)
  rw [List.length_map] at h
  refine Nat.le_trans h ?_
  refine Nat.le_trans (Nat.mul_le_mul hl (Nat.add_le_add_right hm 1048576)) ?_
  omega
end Go.Proofs.Ytdlebbmmanjffaa.M
end

section
set_option linter.unusedVariables false
set_option linter.unusedSimpArgs false
namespace Go.Proofs.Ytdlebbmmanjffaa.L
open Go Go.RowKit Go.Proofs.Ytdlebbmmanjffaa.A Go.Proofs.YtdlebbmmanjffaaW.PrintWords
theorem FnExactSeatJudges_pure (l0 : List S86) (l1 : List S38) (l2 : List S40) (b0 : l0.length ≤ 9223372036854775807) (b1 : ∀ x ∈ l0, x.f5.length ≤ 9223372036854775807) (b2 : l1.length ≤ 9223372036854775807) (b3 : ∀ x ∈ l1, x.f2.length ≤ 9223372036854775807) (b4 : l2.length ≤ 9223372036854775807) : ∃ k, laws_FnExactSeatJudges.f k l0 l1 l2 = some true := by
  refine Ev.rounds (g := fun k => laws_FnExactSeatJudges.f k l0 l1 l2) ?_
  unfold laws_FnExactSeatJudges.f
  obtain ⟨v, hv, hv1, hv2⟩ := szTeamS_ev l0 b0 b1
  refine Ev.bind hv (Ev.ite (fun _ => Ev.now _) (fun hs => ?_))
  obtain ⟨hl, hi⟩ := hv2 hs
  obtain ⟨u, hu, hu1, hu2⟩ := szJudgeS_ev l1 v ⟨by omega, hv1⟩ b2 b3
  refine Ev.bind hu (Ev.ite (fun _ => Ev.now _) (fun hs2 => ?_))
  obtain ⟨hl1, hi1⟩ := hu2 hs2
  refine Ev.bnd (szPairS_eq l2 u (by omega) hu1 b4) (Ev.ite (fun _ => Ev.now _) (fun hs3 => ?_))
  have hl2 : l2.length ≤ 1048576 := by split at hs3 <;> omega
  have hi' : ∀ x ∈ l0, x.f5.length ≤ 1099511627776 := fun x hx => by have := hi x hx; omega
  have hi1' : ∀ x ∈ l1, x.f2.length ≤ 1099511627776 := fun x hx => by have := hi1 x hx; omega
  have hS := small_map l0 (by omega) hi'
  have hJ := smallJ_map l1 (by omega) hi1'
  have hT := M.tot_small 5 (by omega) (fun x : Tm => x.f5.length) (l0.map cvTm) (by simpa using hl) (by
    intro x hx
    obtain ⟨y, hy, rfl⟩ := List.mem_map.1 hx
    exact hi y hy)
  have hT2 := M.tot_small 2 (by omega) (fun x : Jg => x.f2.length) (l1.map cvJg) (by simpa using hl1) (by
    intro x hx
    obtain ⟨y, hy, rfl⟩ := List.mem_map.1 hx
    exact hi1 y hy)
  have hA := toTeamS_ev l0 (by omega) hi'
  have hB := toJudgeS_ev l1 (by omega) hi1'
  have hC := toPairS_ev l2 (by omega)
  have hpl : (l2.map cvPair).length ≤ 1048576 := by simpa using hl2
  have hlen : (seatT (l0.map cvTm) (l1.map cvJg) (l2.map cvPair)).1.length ≤ 1048576 := Nat.le_trans (seatT_len _ _ _) hpl
  have hP := sSeatJ_ev _ _ _ hS hJ hpl
  have hQ := iSeatJ_ev _ _ _ hS hJ hpl
  generalize seatT (l0.map cvTm) (l1.map cvJg) (l2.map cvPair) = y at hP hQ hlen
  have hE : Ev (fun k => laws_eqIntS.f k y.1 y.1) true := Ev.cast (eqIntS_ev _ _ (by omega)) (by simp)
  refine Ev.bind hA (Ev.bind hB (Ev.bind hC (Ev.bind hP ?_)))
  refine Ev.bind hA (Ev.bind hB (Ev.bind hC (Ev.bind hQ ?_)))
  refine Ev.bind hE (Ev.pos rfl (Ev.pos rfl ?_))
  refine Ev.bind hA (Ev.bind (eqTeamS_ev _ hS) (Ev.pos rfl ?_))
  refine Ev.bind hB (Ev.bind (eqJudgeS_ev _ hJ) (Ev.pos rfl ?_))
  refine Ev.bind hC (Ev.bind (eqPairS_ev _ (by omega)) (Ev.pos rfl ?_))
  refine Ev.pos ⟨⟨by simp; omega, fun x hx => by have := hS.2 x hx; omega⟩, Int.le_trans (Int.ofNat_le.2 hT) (by omega)⟩ ?_
  refine Ev.pos ⟨⟨by simp; omega, fun x hx => by have := hJ.2 x hx; omega⟩, Int.le_trans (Int.ofNat_le.2 hT2) (by omega)⟩ ?_
  obtain ⟨ys, _, hM⟩ := markPairS_ev (l2.map cvPair) (1 + (M.tot 5 ((l0.map cvTm).map (fun x => x.f5.length)) : Int) + (M.tot 2 ((l1.map cvJg).map (fun x => x.f2.length)) : Int)) (by have h1 := Int.natCast_nonneg (M.tot 5 ((l0.map cvTm).map (fun x => x.f5.length))); have h2 := Int.natCast_nonneg (M.tot 2 ((l1.map cvJg).map (fun x => x.f2.length))); omega) (by have h1 := Int.ofNat_le.2 hT; have h2 := Int.ofNat_le.2 hT2; omega) (by omega)
  refine Ev.bind hM ?_
  dsimp only
  refine Ev.pos (by have h1 := Int.natCast_nonneg (M.tot 5 ((l0.map cvTm).map (fun x => x.f5.length))); have h2 := Int.natCast_nonneg (M.tot 2 ((l1.map cvJg).map (fun x => x.f2.length))); omega) ?_
  refine Ev.bind hE (Ev.pos rfl (Ev.pos rfl (Ev.bind (markIntS_ev _ 1 (by omega) (by omega) (by omega)) ?_)))
  dsimp only
  have hH := heldIntS_ev y.1.length 1 (by omega) (by omega) (by omega)
  refine Ev.bind hH (Ev.pos (by omega) (Ev.pos rfl ?_))
  refine Ev.bind hA (Ev.bind hB (Ev.bind hC (Ev.bind hQ ?_)))
  refine Ev.bind hE (Ev.pos rfl (Ev.pos rfl ?_))
  exact Ev.bind hH (Ev.pos (by omega) (Ev.pos rfl (Ev.now _)))
end Go.Proofs.Ytdlebbmmanjffaa.L
end
