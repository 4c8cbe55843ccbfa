/- Rankings: preferring, pairs, winners: what the printed functions come to. -/
import Derived.Test.YtcffappipgapbaaLRank1
import Derived.Test.YtcffappipgapbaaLIntSS
import Derived.Test.YtcffappipgapbaaA3
import Derived.Test.YtcffappipgapbaaA4
import Derived.Test.YtcffappipgapbaaA8
import Derived.Test.YtcffappipgapbaaA52
import Derived.Test.YtcffappipgapbaaA54
set_option linter.unusedVariables false
set_option linter.unusedSimpArgs false
namespace Go.Proofs.Ytcffappipgapbaa.L
open Go Go.RowKit Go.Proofs.Ytcffappipgapbaa.A Go.Proofs.YtcffappipgapbaaW.PrintWords

theorem l17At_l0 (l : List Int) (x : Int) (hl : l.length ≤ 1099511627776) : ∀ (d n : Nat), n + d = l.length → Ev (fun k => spec_l17At.l0 k l x (n : Int)) (if x ∈ l.drop n then ((n + (l.drop n).idxOf x : Nat) : Int) else -1) := by
  intro d
  induction d with
  | zero =>
    intro n hd
    refine Ev.step (fun k => spec_l17At.l0.eq_2 ..) ?_
    refine Ev.neg (by omega) (Ev.some_ ?_)
    rw [List.drop_eq_nil_of_le (by omega)]
    simp
  | succ d ih =>
    intro n hd
    refine Ev.step (fun k => spec_l17At.l0.eq_2 ..) ?_
    refine Ev.pos (by omega) (Ev.pos (by omega) ?_)
    simp only [w64s (show n < 4611686018427387904 by omega), rd_at (show n < l.length by omega)]
    have h1 := ih (n + 1) (by omega)
    rw [List.drop_eq_getElem_cons (show n < l.length by omega)]
    generalize l.drop (n + 1) = u at h1 ⊢
    refine Ev.ite (fun h => Ev.some_ ?_) (fun h => Ev.cast h1 ?_)
    · simp [h]
    · have h' : ¬ x = l[n] := fun e => h e.symm
      simp only [List.mem_cons, h', false_or, List.idxOf_cons, beq_eq_false_iff_ne.2 h]
      split
      · simp; omega
      · rfl
theorem l17At_ev (l : List Int) (x : Int) (hl : l.length ≤ 1099511627776) : Ev (fun k => spec_l17At.f k l x) (idx l x) := by
  unfold spec_l17At.f
  refine Ev.cast (l17At_l0 l x hl l.length 0 (by omega)) ?_
  simp [idx]
/-- Is a ahead of b in a ranking? -/
def ahead (a b : Int) (r : List Int) : Bool := decide (0 ≤ idx r a ∧ idx r a < idx r b)
def prefB (a b : Int) : List (List Int) → Int
  | [] => 0
  | r :: l => (if ahead a b r = true then 1 else 0) + prefB a b l
theorem prefB_le (a b : Int) : ∀ l : List (List Int), 0 ≤ prefB a b l ∧ prefB a b l ≤ l.length
  | [] => by simp [prefB]
  | x :: l => by
    have := prefB_le a b l
    simp only [prefB, List.length_cons]
    split <;> omega
theorem sPrefer_l0 (l : List (List Int)) (a b : Int) (hl : l.length ≤ 1099511627776) (hi : ∀ x ∈ l, x.length ≤ 1099511627776) : ∀ (d n : Nat) (acc : Int), n + d = l.length → 0 ≤ acc → acc + d ≤ 4611686018427387904 → Ev (fun k => spec_Prefer.l0 k l a b acc (n : Int)) (acc + prefB a b (l.drop n)) := by
  intro d
  induction d with
  | zero =>
    intro n acc hd h0 h1
    refine Ev.step (fun k => spec_Prefer.l0.eq_2 ..) ?_
    refine Ev.neg (by omega) (Ev.some_ ?_)
    rw [List.drop_eq_nil_of_le (by omega)]
    simp [prefB]
  | succ d ih =>
    intro n acc hd h0 h1
    have hn := hi l[n] (List.getElem_mem _)
    refine Ev.step (fun k => spec_Prefer.l0.eq_2 ..) ?_
    refine Ev.pos (by omega) (Ev.pos (by omega) ?_)
    simp only [w64s (show n < 4611686018427387904 by omega), rdL1_at (show n < l.length by omega), w64 (show -9223372036854775808 ≤ acc + 1 by omega) (show acc + 1 ≤ 9223372036854775807 by omega)]
    have h1 := fun acc h0 h1 => ih (n + 1) acc (by omega) h0 h1
    rw [List.drop_eq_getElem_cons (show n < l.length by omega)]
    generalize l.drop (n + 1) = u at h1 ⊢
    refine Ev.bind (l17At_ev l[n] a hn) (Ev.ite (fun h => Ev.bind (l17At_ev l[n] b hn) (Ev.ite (fun h2 => Ev.cast (h1 (acc + 1) (by omega) (by omega)) ?_) (fun h2 => Ev.cast (h1 acc (by omega) (by omega)) ?_))) (fun h => Ev.cast (h1 acc (by omega) (by omega)) ?_))
    · have : ahead a b l[n] = true := by simp only [ahead, decide_eq_true_eq]; omega
      simp only [prefB, this, if_true]; omega
    · have : ¬ ahead a b l[n] = true := by simp only [ahead, decide_eq_true_eq]; omega
      rw [prefB, if_neg this]; omega
    · have : ¬ ahead a b l[n] = true := by simp only [ahead, decide_eq_true_eq]; omega
      rw [prefB, if_neg this]; omega
theorem sPrefer_ev (l : List (List Int)) (a b : Int) (hl : l.length ≤ 1099511627776) (hi : ∀ x ∈ l, x.length ≤ 1099511627776) : Ev (fun k => spec_Prefer.f k l a b) (prefB a b l) := by
  unfold spec_Prefer.f
  exact Ev.cast (sPrefer_l0 l a b hl hi l.length 0 0 (by omega) (by omega) (by omega)) (by simp)
theorem idx_ge (l : List Int) (x : Int) : -1 ≤ idx l x := by
  unfold idx
  split <;> omega
theorem iPrefer_l0 (l : List (List Int)) (a b : Int) (hl : l.length ≤ 1099511627776) (hi : ∀ x ∈ l, x.length ≤ 1099511627776) : ∀ (d n : Nat) (acc : Int), n + d = l.length → 0 ≤ acc → acc + d ≤ 4611686018427387904 → Ev (fun k => impl_Prefer.l0 k a b acc l (l.length : Int) (n : Int)) (acc + prefB a b (l.drop n)) := by
  intro d
  induction d with
  | zero =>
    intro n acc hd h0 h1
    refine Ev.step (fun k => impl_Prefer.l0.eq_2 ..) ?_
    refine Ev.neg (by omega) (Ev.some_ ?_)
    rw [List.drop_eq_nil_of_le (by omega)]
    simp [prefB]
  | succ d ih =>
    intro n acc hd h0 h1
    have hn := hi l[n] (List.getElem_mem _)
    refine Ev.step (fun k => impl_Prefer.l0.eq_2 ..) ?_
    refine Ev.pos (by omega) (Ev.pos (by omega) (Ev.pos (by omega) ?_))
    simp only [w64s (show n < 4611686018427387904 by omega), rdL1_at (show n < l.length by omega), w64 (show -9223372036854775808 ≤ acc + 1 by omega) (show acc + 1 ≤ 9223372036854775807 by omega)]
    have h1 := fun acc h0 h1 => ih (n + 1) acc (by omega) h0 h1
    rw [List.drop_eq_getElem_cons (show n < l.length by omega)]
    generalize l.drop (n + 1) = u at h1 ⊢
    refine Ev.bind (Index_ev l[n] a hn) (Ev.bind (Index_ev l[n] b hn) (Ev.ite (fun h => Ev.ite (fun h3 => Ev.ite (fun h2 => Ev.cast (h1 (acc + 1) (by omega) (by omega)) ?_) (fun h2 => Ev.cast (h1 acc (by omega) (by omega)) ?_)) (fun h3 => Ev.cast (h1 acc (by omega) (by omega)) ?_)) (fun h => Ev.cast (h1 acc (by omega) (by omega)) ?_)))
    · have : ahead a b l[n] = true := by simp only [ahead, decide_eq_true_eq]; omega
      simp only [prefB, this, if_true]; omega
    · have : ¬ ahead a b l[n] = true := by simp only [ahead, decide_eq_true_eq]; omega
      rw [prefB, if_neg this]; omega
    · have : ¬ ahead a b l[n] = true := by simp only [ahead, decide_eq_true_eq]; omega
      rw [prefB, if_neg this]; omega
    · have : ¬ ahead a b l[n] = true := by simp only [ahead, decide_eq_true_eq]; omega
      rw [prefB, if_neg this]; omega
theorem iPrefer_ev (l : List (List Int)) (a b : Int) (hl : l.length ≤ 1099511627776) (hi : ∀ x ∈ l, x.length ≤ 1099511627776) : Ev (fun k => impl_Prefer.f k l a b) (prefB a b l) := by
  unfold impl_Prefer.f
  exact Ev.cast (iPrefer_l0 l a b hl hi l.length 0 0 (by omega) (by omega) (by omega)) (by simp)
/-- Rankings of n choices. -/
def okRanks (l : List (List Int)) (n : Int) : Bool := (l.all fun r => isRank r n) && inR n 1 8 && decide ((l.length : Int) ≤ 20)
theorem sAreRankings_l0 (l : List (List Int)) (a : Int) (hl : l.length ≤ 1099511627776) (hi : ∀ x ∈ l, x.length ≤ 1099511627776) : ∀ (d n : Nat), n + d = l.length → Ev (fun k => spec_AreRankings.l0 k l a (n : Int)) (((l.drop n).all fun r => isRank r a) && inR a 1 8 && decide ((l.length : Int) ≤ 20)) := by
  intro d
  induction d with
  | zero =>
    intro n hd
    refine Ev.step (fun k => spec_AreRankings.l0.eq_2 ..) ?_
    refine Ev.neg (by omega) ?_
    simp only [l1In_eq, Option.bind_some]
    rw [List.drop_eq_nil_of_le (by omega)]
    refine Ev.ite (fun h => Ev.some_ ?_) (fun h => Ev.some_ ?_)
    · simp [h]
    · simp [h]
  | succ d ih =>
    intro n hd
    have hn := hi l[n] (List.getElem_mem _)
    refine Ev.step (fun k => spec_AreRankings.l0.eq_2 ..) ?_
    refine Ev.pos (by omega) (Ev.pos (by omega) ?_)
    simp only [w64s (show n < 4611686018427387904 by omega), rdL1_at (show n < l.length by omega)]
    have h1 := ih (n + 1) (by omega)
    rw [List.drop_eq_getElem_cons (show n < l.length by omega)]
    generalize l.drop (n + 1) = u at h1 ⊢
    refine Ev.bind (sIsRanking_ev l[n] a hn) (Ev.ite (fun h => Ev.cast h1 ?_) (fun h => Ev.some_ ?_))
    · simp [h]
    · simp [h]
theorem sAreRankings_ev (l : List (List Int)) (a : Int) (hl : l.length ≤ 1099511627776) (hi : ∀ x ∈ l, x.length ≤ 1099511627776) : Ev (fun k => spec_AreRankings.f k l a) (okRanks l a) := by
  unfold spec_AreRankings.f
  exact Ev.cast (sAreRankings_l0 l a hl hi l.length 0 (by omega)) (by simp [okRanks])
theorem iAreRankings_l0 (l : List (List Int)) (a : Int) (hl : l.length ≤ 1099511627776) (hi : ∀ x ∈ l, x.length ≤ 1099511627776) : ∀ (d n : Nat), n + d = l.length → Ev (fun k => impl_AreRankings.l0 k a l (l.length : Int) (n : Int)) ((l.drop n).all fun r => isRank r a) := by
  intro d
  induction d with
  | zero =>
    intro n hd
    refine Ev.step (fun k => impl_AreRankings.l0.eq_2 ..) ?_
    refine Ev.neg (by omega) (Ev.some_ ?_)
    rw [List.drop_eq_nil_of_le (by omega)]
    rfl
  | succ d ih =>
    intro n hd
    have hn := hi l[n] (List.getElem_mem _)
    refine Ev.step (fun k => impl_AreRankings.l0.eq_2 ..) ?_
    refine Ev.pos (by omega) (Ev.pos (by omega) (Ev.pos (by omega) ?_))
    simp only [w64s (show n < 4611686018427387904 by omega), rdL1_at (show n < l.length by omega)]
    have h1 := ih (n + 1) (by omega)
    rw [List.drop_eq_getElem_cons (show n < l.length by omega)]
    generalize l.drop (n + 1) = u at h1 ⊢
    refine Ev.bind (iIsRanking_ev l[n] a hn) (Ev.ite (fun h => Ev.cast h1 ?_) (fun h => Ev.some_ ?_))
    · simp [h]
    · simp [h]
theorem iAreRankings_ev (l : List (List Int)) (a : Int) (hl : l.length ≤ 1099511627776) (hi : ∀ x ∈ l, x.length ≤ 1099511627776) : Ev (fun k => impl_AreRankings.f k l a) (okRanks l a) := by
  unfold impl_AreRankings.f
  simp only [InRange_eq, Option.bind_some]
  refine Ev.ite (fun h => Ev.step (fun k => impl_AreRankings.j0.eq_2 ..) (Ev.pos rfl (Ev.some_ ?_))) (fun h => Ev.step (fun k => impl_AreRankings.j0.eq_2 ..) (Ev.ite (fun h2 => Ev.some_ ?_) (fun h2 => Ev.cast (iAreRankings_l0 l a hl hi l.length 0 (by omega)) ?_)))
  · have : ¬ (l.length : Int) ≤ 20 := by omega
    simp [okRanks, this]
  · have : inR a 1 8 = false := by simpa using h2
    simp [okRanks, this]
  · have h3 : inR a 1 8 = true := by simpa using h2
    have : (l.length : Int) ≤ 20 := by omega
    simp [okRanks, h3, this]
theorem okRanks_iff {l : List (List Int)} {n : Int} : okRanks l n = true ↔ (∀ r ∈ l, isRank r n = true) ∧ (1 ≤ n ∧ n ≤ 8) ∧ l.length ≤ 20 := by
  simp only [okRanks, Bool.and_eq_true, List.all_eq_true, inR_iff, decide_eq_true_eq, and_assoc]
  constructor
  · rintro ⟨a, b, c, d⟩
    exact ⟨a, b, c, by omega⟩
  · rintro ⟨a, b, c, d⟩
    exact ⟨a, b, c, by omega⟩
end Go.Proofs.Ytcffappipgapbaa.L
