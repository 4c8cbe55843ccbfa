/- Whether they are teams: what the printed functions come to, for every small list of teams. -/
import Derived.Test.YtiimiogpiflkdaaLFind
import Derived.Test.YtiimiogpiflkdaaLCnt
import Derived.Test.YtiimiogpiflkdaaLRngS
import Derived.Test.YtiimiogpiflkdaaLRngI
import Derived.Test.YtiimiogpiflkdaaA16
import Derived.Test.YtiimiogpiflkdaaA19
set_option linter.unusedVariables false
set_option linter.unusedSimpArgs false
namespace Go.Proofs.Ytiimiogpiflkdaa.L
open Go Go.RowKit Go.Proofs.Ytiimiogpiflkdaa.A Go.Proofs.YtiimiogpiflkdaaW.PrintWords

abbrev rdT (l : List Tm) (i : Int) : Tm := rd_T61 l i
def rowT (l : List Tm) (n : Int) : Bool :=
  inR (rdT l n).f0 1 99 && inR (rdT l n).f1 1 99 && inR (rdT l n).f2 0 ((rdT l n).f5.length : Int) && inR (rdT l n).f4 0 ((rdT l n).f5.length : Int) && inR (rdT l n).f3 0 100000 && decide (¬ ((rdT l n).f5.length : Int) > 20) && decide (¬ (n > 0 ∧ (rdT l (n - 1)).f0 ≥ (rdT l n).f0))
def metB (l : List Tm) (n : Int) (id : Int) : Bool := decide (0 ≤ findT l id ∧ findT l id ≠ n ∧ (((rdT l (findT l id)).f5.count (rdT l n).f0 : Nat) : Int) = (((rdT l n).f5.count id : Nat) : Int))
def okT (l : List Tm) (n : Int) : Bool := rowT l n && (rdT l n).f5.all (metB l n)
def tlT (l : List Tm) : Nat → Nat → Bool
  | 0, _ => decide (l.length ≤ 10)
  | d + 1, n => okT l n && tlT l d (n + 1)
/-- The plain answer. -/
def areT (l : List Tm) : Bool := tlT l l.length 0
theorem findT_id {l : List Tm} {id : Int} (h : 0 ≤ findT l id) : (rdT l (findT l id)).f0 = id := by
  obtain ⟨hl, hp⟩ := fidx_at (fun t : Tm => decide (t.f0 = id)) l h
  obtain ⟨_, e⟩ := rdTm_int h (findT_range l id).2
  show (rd_T61 l (findT l id)).f0 = id
  rw [e]
  exact of_decide_eq_true hp
theorem sAre_jt (l : List Tm) (n a b c d e : Int) (f : List Int) : Ev (fun k => spec_AreTeams.j1 k l n true a b c d e f) false :=
  Ev.step (fun k => spec_AreTeams.j1.eq_2 ..) (Ev.pos rfl (Ev.now _))
theorem sAre_l1 (l : List Tm) (hs : Small l) (n : Nat) (hn : n < l.length) (r : Bool) (hk : Ev (fun k => spec_AreTeams.l0 k l ((n + 1 : Nat) : Int)) r) : ∀ (d m : Nat), m + d = (rdT l n).f5.length → Ev (fun k => spec_AreTeams.l1 k l (n : Int) (m : Int) (rdT l n).f0 (rdT l n).f1 (rdT l n).f2 (rdT l n).f3 (rdT l n).f4 (rdT l n).f5) ((((rdT l n).f5.drop m).all (metB l n)) && r) := by
  have hlen := hs.1
  have hmet : (rdT l n).f5.length ≤ 1099511627776 := hs.2 _ (rdTm_mem (by omega) (by omega))
  intro d
  induction d with
  | zero =>
    intro m hd
    refine Ev.step (fun k => spec_AreTeams.l1.eq_2 ..) ?_
    refine Ev.neg (by omega) ?_
    simp only [w64s (show n < 4611686018427387904 by omega)]
    rw [List.drop_eq_nil_of_le (by omega)]
    exact Ev.cast hk (by simp)
  | succ d ih =>
    intro m hd
    refine Ev.step (fun k => spec_AreTeams.l1.eq_2 ..) ?_
    refine Ev.pos (by omega) (Ev.pos (by omega) ?_)
    have hm : m < (rdT l n).f5.length := by omega
    simp only [w64s (show m < 4611686018427387904 by omega), rd_at hm]
    rw [List.drop_eq_getElem_cons hm, List.all_cons]
    generalize hid : (rdT l n).f5[m] = id
    have hr := findT_range l id
    refine Ev.bind (sFindTeam_ev l id hs.1) ?_
    refine Ev.ite (fun h => Ev.some_ (by simp only [metB]; rw [decide_eq_false (fun h2 => by omega)]; rfl)) (fun h => ?_)
    refine Ev.ite (fun h1 => Ev.some_ (by simp only [metB]; rw [decide_eq_false (fun h2 => h2.2.1 h1)]; rfl)) (fun h1 => ?_)
    refine Ev.pos (by omega) (Ev.pos hr.2 ?_)
    have hm2 : (rdT l (findT l id)).f5.length ≤ 1099511627776 := hs.2 _ (rdTm_mem (by omega) hr.2)
    refine Ev.bind (l19Count_ev _ _ hm2) (Ev.bind (l19Count_ev _ _ hmet) ?_)
    have hfid : (rd_T61 l (findT l id)).f0 = id := findT_id (by omega)
    simp only [hfid]
    refine Ev.ite (fun h2 => Ev.cast (ih (m + 1) (by omega)) ?_) (fun h2 => Ev.some_ ?_)
    · have : metB l n id = true := by simp only [metB]; exact decide_eq_true ⟨by omega, h1, h2⟩
      rw [this, Bool.true_and]
    · have : metB l n id = false := by simp only [metB]; exact decide_eq_false (fun h3 => h2 h3.2.2)
      rw [this]
      rfl
theorem sAre_jf (l : List Tm) (hs : Small l) (n : Nat) (hn : n < l.length) (r : Bool) (hk : Ev (fun k => spec_AreTeams.l0 k l ((n + 1 : Nat) : Int)) r) : Ev (fun k => spec_AreTeams.j1 k l (n : Int) false (rdT l n).f0 (rdT l n).f1 (rdT l n).f2 (rdT l n).f3 (rdT l n).f4 (rdT l n).f5) ((rdT l n).f5.all (metB l n) && r) :=
  Ev.step (fun k => spec_AreTeams.j1.eq_2 ..) (Ev.neg (by decide) (sAre_l1 l hs n hn r hk (rdT l n).f5.length 0 (by omega)))
theorem sAre_row (l : List Tm) (hs : Small l) (n : Nat) (hn : n < l.length) (r : Bool) (hk : Ev (fun k => spec_AreTeams.l0 k l ((n + 1 : Nat) : Int)) r) : Ev (fun k => spec_AreTeams.l0 k l (n : Int)) (okT l n && r) := by
  have hlen := hs.1
  have J := sAre_jf l hs n hn r hk
  refine Ev.step (fun k => spec_AreTeams.l0.eq_2 ..) (Ev.pos (by omega) (Ev.pos (by omega) ?_))
  refine Ev.bnd (l1In_eq _ _ _) ?_
  by_cases h1 : inR (rdT l n).f0 1 99 = true
  rotate_left
  · exact Ev.cast (Ev.neg h1 (sAre_jt ..)) (by simp [okT, rowT, h1])
  refine Ev.pos h1 (Ev.bnd (l1In_eq _ _ _) ?_)
  by_cases h2 : inR (rdT l n).f1 1 99 = true
  rotate_left
  · exact Ev.cast (Ev.neg h2 (sAre_jt ..)) (by simp [okT, rowT, h2])
  refine Ev.pos h2 (Ev.bnd (l1In_eq _ _ _) ?_)
  by_cases h3 : inR (rdT l n).f2 0 ((rdT l n).f5.length : Int) = true
  rotate_left
  · exact Ev.cast (Ev.neg h3 (sAre_jt ..)) (by simp [okT, rowT, h3])
  refine Ev.pos h3 (Ev.bnd (l1In_eq _ _ _) ?_)
  by_cases h4 : inR (rdT l n).f4 0 ((rdT l n).f5.length : Int) = true
  rotate_left
  · exact Ev.cast (Ev.neg h4 (sAre_jt ..)) (by simp [okT, rowT, h4])
  refine Ev.pos h4 (Ev.bnd (l1In_eq _ _ _) ?_)
  by_cases h5 : inR (rdT l n).f3 0 100000 = true
  rotate_left
  · exact Ev.cast (Ev.neg h5 (sAre_jt ..)) (by simp [okT, rowT, h5])
  refine Ev.pos h5 ?_
  by_cases h6 : ((rdT l n).f5.length : Int) > 20
  · refine Ev.cast (Ev.pos h6 (sAre_jt ..)) ?_
    have : decide (¬ ((rdT l n).f5.length : Int) > 20) = false := decide_eq_false (fun h => h h6)
    simp only [okT, rowT, this, Bool.and_false, Bool.false_and]
  refine Ev.neg h6 ?_
  have d6 : decide (¬ ((rdT l n).f5.length : Int) > 20) = true := decide_eq_true h6
  by_cases h7 : (n : Int) > 0
  · refine Ev.pos h7 ?_
    simp only [w64 (show -9223372036854775808 ≤ (n : Int) - 1 by omega) (show (n : Int) - 1 ≤ 9223372036854775807 by omega)]
    refine Ev.pos (by omega) (Ev.pos (by omega) ?_)
    by_cases h8 : (rdT l ((n : Int) - 1)).f0 ≥ (rdT l n).f0
    · have e8 : decide ((rd_T61 l ((n : Int) - 1)).f0 ≥ (rd_T61 l n).f0) = true := decide_eq_true h8
      simp only [e8]
      refine Ev.cast (sAre_jt ..) ?_
      have : decide (¬ ((n : Int) > 0 ∧ (rdT l ((n : Int) - 1)).f0 ≥ (rdT l n).f0)) = false := decide_eq_false (fun h => h ⟨h7, h8⟩)
      simp only [okT, rowT, this, Bool.and_false, Bool.false_and]
    · have e8 : decide ((rd_T61 l ((n : Int) - 1)).f0 ≥ (rd_T61 l n).f0) = false := decide_eq_false h8
      simp only [e8]
      refine Ev.cast J ?_
      have : decide (¬ ((n : Int) > 0 ∧ (rdT l ((n : Int) - 1)).f0 ≥ (rdT l n).f0)) = true := decide_eq_true (fun h => h8 h.2)
      simp only [okT, rowT, this, d6, h1, h2, h3, h4, h5, Bool.and_true, Bool.true_and]
  · refine Ev.cast (Ev.neg h7 J) ?_
    have : decide (¬ ((n : Int) > 0 ∧ (rdT l ((n : Int) - 1)).f0 ≥ (rdT l n).f0)) = true := decide_eq_true (fun h => h7 h.1)
    simp only [okT, rowT, this, d6, h1, h2, h3, h4, h5, Bool.and_true, Bool.true_and]
theorem sAre_l0 (l : List Tm) (hs : Small l) : ∀ (d n : Nat), n + d = l.length → Ev (fun k => spec_AreTeams.l0 k l (n : Int)) (tlT l d n) := by
  intro d
  induction d with
  | zero =>
    intro n hd
    refine Ev.step (fun k => spec_AreTeams.l0.eq_2 ..) (Ev.neg (by omega) (Ev.some_ ?_))
    simp only [tlT]
    congr 1
    simp only [eq_iff_iff]
    omega
  | succ d ih =>
    intro n hd
    exact sAre_row l hs n (by omega) _ (ih (n + 1) (by omega))
theorem sAreTeams_ev (l : List Tm) (hs : Small l) : Ev (fun k => spec_AreTeams.f k l) (areT l) := by
  unfold spec_AreTeams.f
  exact sAre_l0 l hs l.length 0 (by omega)
/-- Ascending so far. -/
def ascT (l : List Tm) (n : Nat) : Prop := ∀ i : Nat, i < n → (rdT l i).f0 < (rdT l (i + 1 : Nat)).f0
theorem ascT_lt {l : List Tm} {n : Nat} (h : ascT l n) : ∀ (j i : Nat), i < j → j ≤ n → (rdT l i).f0 < (rdT l j).f0 := by
  intro j
  induction j with
  | zero => intro i hi; omega
  | succ j ih =>
    intro i hi hj
    have h1 := h j (by omega)
    by_cases e : i = j
    · subst e
      exact h1
    · have := ih i (by omega) (by omega)
      omega
theorem findT_self {l : List Tm} {n : Nat} (h : ascT l n) (hn : n < l.length) : findT l (rdT l n).f0 = n := by
  have e : l.findIdx? (fun t : Tm => decide (t.f0 = (rdT l n).f0)) = some n := by
    rw [List.findIdx?_eq_some_iff_getElem]
    refine ⟨hn, by simp [rdT, rdTm hn], fun j hj => ?_⟩
    have := ascT_lt h n j hj (Nat.le_refl _)
    rw [rdT, rdTm (show j < l.length by omega)] at this
    simp only [decide_eq_true_eq]
    omega
  unfold findT fidx
  rw [e]
theorem iAre_jt (l x : List Tm) (p n a b c d e : Int) (f : List Int) : Ev (fun k => impl_AreTeams.j1 k l x p n true a b c d e f) false :=
  Ev.step (fun k => impl_AreTeams.j1.eq_2 ..) (Ev.pos rfl (Ev.now _))
theorem iAre_l1 (l : List Tm) (hs : Small l) (n : Nat) (hn : n < l.length) (ha : ascT l n) (r : Bool) (hk : Ev (fun k => impl_AreTeams.l0 k l l (l.length : Int) ((n + 1 : Nat) : Int)) r) : ∀ (d m : Nat), m + d = (rdT l n).f5.length → Ev (fun k => impl_AreTeams.l1 k l l (l.length : Int) (n : Int) (rdT l n).f5 ((rdT l n).f5.length : Int) (m : Int) (rdT l n).f0 (rdT l n).f1 (rdT l n).f2 (rdT l n).f3 (rdT l n).f4 (rdT l n).f5) ((((rdT l n).f5.drop m).all (metB l n)) && r) := by
  have hlen := hs.1
  have hmet : (rdT l n).f5.length ≤ 1099511627776 := hs.2 _ (rdTm_mem (by omega) (by omega))
  intro d
  induction d with
  | zero =>
    intro m hd
    refine Ev.step (fun k => impl_AreTeams.l1.eq_2 ..) ?_
    refine Ev.neg (by omega) ?_
    simp only [w64s (show n < 4611686018427387904 by omega)]
    rw [List.drop_eq_nil_of_le (by omega)]
    exact Ev.cast hk (by simp)
  | succ d ih =>
    intro m hd
    refine Ev.step (fun k => impl_AreTeams.l1.eq_2 ..) ?_
    refine Ev.pos (by omega) (Ev.pos (by omega) (Ev.pos (by omega) ?_))
    have hm : m < (rdT l n).f5.length := by omega
    simp only [w64s (show m < 4611686018427387904 by omega), rd_at hm]
    rw [List.drop_eq_getElem_cons hm, List.all_cons]
    generalize hid : (rdT l n).f5[m] = id
    have hr := findT_range l id
    have hself := findT_self ha hn
    refine Ev.bnd (iFindTeam_eq l id) ?_
    refine Ev.ite (fun h => Ev.some_ (by simp only [metB]; rw [decide_eq_false (fun h2 => by omega)]; rfl)) (fun h => ?_)
    refine Ev.ite (fun h1 => Ev.some_ (by simp only [metB]; rw [decide_eq_false (fun h2 => h2.2.1 (by rw [h1]; exact hself))]; rfl)) (fun h1 => ?_)
    have hfid : (rd_T61 l (findT l id)).f0 = id := findT_id (by omega)
    have h1' : findT l id ≠ n := fun e => h1 (by rw [← hfid, e])
    refine Ev.bind (times_ev _ _ hmet) (Ev.pos (by omega) (Ev.pos hr.2 ?_))
    have hm2 : (rdT l (findT l id)).f5.length ≤ 1099511627776 := hs.2 _ (rdTm_mem (by omega) hr.2)
    refine Ev.bind (times_ev _ _ hm2) ?_
    refine Ev.ite (fun h2 => Ev.cast (ih (m + 1) (by omega)) ?_) (fun h2 => Ev.some_ ?_)
    · have : metB l n id = true := by simp only [metB]; exact decide_eq_true ⟨by omega, h1', h2.symm⟩
      rw [this, Bool.true_and]
    · have : metB l n id = false := by simp only [metB]; exact decide_eq_false (fun h3 => h2 h3.2.2.symm)
      rw [this]
      rfl
theorem iAre_jf (l : List Tm) (hs : Small l) (n : Nat) (hn : n < l.length) (ha : ascT l n) (r : Bool) (hk : Ev (fun k => impl_AreTeams.l0 k l l (l.length : Int) ((n + 1 : Nat) : Int)) r) : Ev (fun k => impl_AreTeams.j1 k l l (l.length : Int) (n : Int) false (rdT l n).f0 (rdT l n).f1 (rdT l n).f2 (rdT l n).f3 (rdT l n).f4 (rdT l n).f5) ((rdT l n).f5.all (metB l n) && r) :=
  Ev.step (fun k => impl_AreTeams.j1.eq_2 ..) (Ev.neg (by decide) (iAre_l1 l hs n hn ha r hk (rdT l n).f5.length 0 (by omega)))
theorem iAre_rest (l : List Tm) (hs : Small l) (n : Nat) (hn : n < l.length) (ha : ascT l n) (r : Bool) (hk : Ev (fun k => impl_AreTeams.l0 k l l (l.length : Int) ((n + 1 : Nat) : Int)) r)
    (h1 : inR (rdT l n).f0 1 99 = true) (h7 : decide (¬ ((n : Int) > 0 ∧ (rdT l ((n : Int) - 1)).f0 ≥ (rdT l n).f0)) = true) : Ev (fun k => (impl_InRange.f (rdT l n).f1 1 99).bind fun t171 => (if t171 = true then (if ((rdT l n).f5.length : Int) > 20 then (impl_AreTeams.j1 k l l (l.length : Int) n true (rdT l n).f0 (rdT l n).f1 (rdT l n).f2 (rdT l n).f3 (rdT l n).f4 (rdT l n).f5) else ((impl_InRange.f (rdT l n).f2 0 ((rdT l n).f5.length : Int)).bind fun t172 => (if t172 = true then ((impl_InRange.f (rdT l n).f4 0 ((rdT l n).f5.length : Int)).bind fun t173 => (if t173 = true then ((impl_InRange.f (rdT l n).f3 0 100000).bind fun t174 => (impl_AreTeams.j1 k l l (l.length : Int) n (!t174) (rdT l n).f0 (rdT l n).f1 (rdT l n).f2 (rdT l n).f3 (rdT l n).f4 (rdT l n).f5)) else (impl_AreTeams.j1 k l l (l.length : Int) n true (rdT l n).f0 (rdT l n).f1 (rdT l n).f2 (rdT l n).f3 (rdT l n).f4 (rdT l n).f5))) else (impl_AreTeams.j1 k l l (l.length : Int) n true (rdT l n).f0 (rdT l n).f1 (rdT l n).f2 (rdT l n).f3 (rdT l n).f4 (rdT l n).f5)))) else (impl_AreTeams.j1 k l l (l.length : Int) n true (rdT l n).f0 (rdT l n).f1 (rdT l n).f2 (rdT l n).f3 (rdT l n).f4 (rdT l n).f5))) (okT l n && r) := by
  have J := iAre_jf l hs n hn ha r hk
  refine Ev.bnd (InRange_eq _ _ _) ?_
  by_cases h2 : inR (rdT l n).f1 1 99 = true
  rotate_left
  · exact Ev.cast (Ev.neg h2 (iAre_jt ..)) (by simp [okT, rowT, h2])
  refine Ev.pos h2 ?_
  by_cases h6 : ((rdT l n).f5.length : Int) > 20
  · refine Ev.cast (Ev.pos h6 (iAre_jt ..)) ?_
    have : decide (¬ ((rdT l n).f5.length : Int) > 20) = false := decide_eq_false (fun h => h h6)
    simp only [okT, rowT, this, Bool.and_false, Bool.false_and]
  have d6 : decide (¬ ((rdT l n).f5.length : Int) > 20) = true := decide_eq_true h6
  refine Ev.neg h6 (Ev.bnd (InRange_eq _ _ _) ?_)
  by_cases h3 : inR (rdT l n).f2 0 ((rdT l n).f5.length : Int) = true
  rotate_left
  · exact Ev.cast (Ev.neg h3 (iAre_jt ..)) (by simp [okT, rowT, h3])
  refine Ev.pos h3 (Ev.bnd (InRange_eq _ _ _) ?_)
  by_cases h4 : inR (rdT l n).f4 0 ((rdT l n).f5.length : Int) = true
  rotate_left
  · exact Ev.cast (Ev.neg h4 (iAre_jt ..)) (by simp [okT, rowT, h4])
  refine Ev.pos h4 (Ev.bnd (InRange_eq _ _ _) ?_)
  by_cases h5 : inR (rdT l n).f3 0 100000 = true
  · simp only [h5, Bool.not_true]
    refine Ev.cast J ?_
    simp only [okT, rowT, h7, d6, h1, h2, h3, h4, h5, Bool.and_true, Bool.true_and]
  · rw [Bool.not_eq_true] at h5
    simp only [h5, Bool.not_false]
    exact Ev.cast (iAre_jt ..) (by simp [okT, rowT, h5])
theorem iAre_row (l : List Tm) (hs : Small l) (n : Nat) (hn : n < l.length) (ha : ascT l (n - 1)) (r : Bool) (hk : ascT l n → Ev (fun k => impl_AreTeams.l0 k l l (l.length : Int) ((n + 1 : Nat) : Int)) r) : Ev (fun k => impl_AreTeams.l0 k l l (l.length : Int) (n : Int)) (okT l n && r) := by
  have hlen := hs.1
  refine Ev.step (fun k => impl_AreTeams.l0.eq_2 ..) (Ev.pos (by omega) (Ev.pos (by omega) (Ev.pos (by omega) ?_)))
  refine Ev.bnd (InRange_eq _ _ _) ?_
  by_cases h1 : inR (rdT l n).f0 1 99 = true
  rotate_left
  · exact Ev.cast (Ev.neg h1 (iAre_jt ..)) (by simp [okT, rowT, h1])
  refine Ev.pos h1 ?_
  by_cases h7 : (n : Int) > 0
  · refine Ev.pos h7 ?_
    simp only [w64 (show -9223372036854775808 ≤ (n : Int) - 1 by omega) (show (n : Int) - 1 ≤ 9223372036854775807 by omega)]
    refine Ev.pos (by omega) (Ev.pos (by omega) ?_)
    by_cases h8 : (rdT l n).f0 ≤ (rdT l ((n : Int) - 1)).f0
    · refine Ev.cast (Ev.pos h8 (iAre_jt ..)) ?_
      have : decide (¬ ((n : Int) > 0 ∧ (rdT l ((n : Int) - 1)).f0 ≥ (rdT l n).f0)) = false := decide_eq_false (fun h => h ⟨h7, h8⟩)
      simp only [okT, rowT, this, Bool.and_false, Bool.false_and]
    · have ha' : ascT l n := by
        intro i hi
        by_cases e : i = n - 1
        · subst e
          have e1 : ((n - 1 : Nat) : Int) = (n : Int) - 1 := by omega
          have e2 : n - 1 + 1 = n := by omega
          rw [e1, e2]
          omega
        · exact ha i (by omega)
      exact Ev.neg h8 (iAre_rest l hs n hn ha' r (hk ha') h1 (decide_eq_true (fun h => h8 h.2)))
  · have ha' : ascT l n := fun i hi => by omega
    exact Ev.neg h7 (iAre_rest l hs n hn ha' r (hk ha') h1 (decide_eq_true (fun h => h7 h.1)))
theorem iAre_l0 (l : List Tm) (hs : Small l) (h10 : l.length ≤ 10) : ∀ (d n : Nat), n + d = l.length → ascT l (n - 1) → Ev (fun k => impl_AreTeams.l0 k l l (l.length : Int) (n : Int)) (tlT l d n) := by
  intro d
  induction d with
  | zero =>
    intro n hd ha
    refine Ev.step (fun k => impl_AreTeams.l0.eq_2 ..) (Ev.neg (by omega) (Ev.some_ ?_))
    simp only [tlT]
    exact (decide_eq_true h10).symm
  | succ d ih =>
    intro n hd ha
    exact iAre_row l hs n (by omega) ha _ (fun ha' => ih (n + 1) (by omega) (by simpa using ha'))
theorem tlT_big (l : List Tm) (h : ¬ l.length ≤ 10) : ∀ (d n : Nat), tlT l d n = false
  | 0, _ => decide_eq_false h
  | d + 1, n => by simp only [tlT, tlT_big l h d (n + 1), Bool.and_false]
theorem iAreTeams_ev (l : List Tm) (hs : Small l) : Ev (fun k => impl_AreTeams.f k l) (areT l) := by
  unfold impl_AreTeams.f
  refine Ev.ite (fun h => Ev.some_ (tlT_big l (by omega) _ _).symm) (fun h => ?_)
  exact iAre_l0 l hs (by omega) l.length 0 (by omega) (fun i hi => by omega)
end Go.Proofs.Ytiimiogpiflkdaa.L
