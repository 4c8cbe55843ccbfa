/- Rankings: the winner of all pairs: what the printed functions come to. -/
import Derived.Test.YtcffappipgapbaaLRank2
import Derived.Test.YtcffappipgapbaaA77
import Derived.Test.YtcffappipgapbaaA78
set_option linter.unusedVariables false
set_option linter.unusedSimpArgs false
namespace Go.Proofs.Ytcffappipgapbaa.L
open Go Go.RowKit Go.Proofs.Ytcffappipgapbaa.A Go.Proofs.YtcffappipgapbaaW.PrintWords

/-- Does a win against b, or is a it? -/
def beats (l : List (List Int)) (a b : Int) : Bool := decide (a = b) || decide (prefB a b l > prefB b a l)
def winsF (l : List (List Int)) (a : Int) (bs : List Int) : Bool := bs.all fun b => beats l a b
def pairF (l : List (List Int)) (N : Nat) : List Int → Int
  | [] => -1
  | a :: t => if winsF l a (upto N) = true then a else pairF l N t
def pairW (l : List (List Int)) (n : Int) : Int := if okRanks l n = true then pairF l n.toNat (upto n.toNat) else -1
theorem upto_get {N n : Nat} (h : n < N) : (upto N)[n]'(by rw [upto_length]; exact h) = (n : Int) := by simp [upto]
theorem upto_drop {N n : Nat} (h : n < N) : (upto N).drop n = (n : Int) :: (upto N).drop (n + 1) := by
  rw [List.drop_eq_getElem_cons (show n < (upto N).length by rw [upto_length]; exact h), upto_get h]
theorem upto_end (N : Nat) : (upto N).drop N = [] := List.drop_eq_nil_of_le (by rw [upto_length]; omega)
section
variable (l : List (List Int)) (N : Nat) (hN : N ≤ 8) (hl : l.length ≤ 1099511627776) (hi : ∀ x ∈ l, x.length ≤ 1099511627776) (ho : okRanks l N = true)
include hN hl hi in
theorem sPair_l1 (a : Nat) (ha : a < N) (R : Int) (hR : Ev (fun k => spec_PairWinner.l0 k l (N : Int) ((a + 1 : Nat) : Int)) R) : ∀ (d n : Nat) (w : Bool), n + d = N → Ev (fun k => spec_PairWinner.l1 k l (N : Int) (a : Int) w (n : Int)) (if (w && winsF l a ((upto N).drop n)) = true then (a : Int) else R) := by
  intro d
  induction d with
  | zero =>
    intro n w hd
    obtain rfl : n = N := by omega
    refine Ev.step (fun k => spec_PairWinner.l1.eq_2 ..) (Ev.neg (by omega) ?_)
    rw [upto_end]
    simp only [winsF, List.all_nil, Bool.and_true, w64s (show a < 4611686018427387904 by omega)]
    refine Ev.ite (fun h => Ev.some_ ?_) (fun h => Ev.cast hR ?_)
    · rw [if_pos h]
    · rw [if_neg h]
  | succ d ih =>
    intro n w hd
    refine Ev.step (fun k => spec_PairWinner.l1.eq_2 ..) (Ev.pos (by omega) ?_)
    rw [upto_drop (show n < N by omega)]
    have h1 := fun w => ih (n + 1) w (by omega)
    generalize (upto N).drop (n + 1) = u at h1 ⊢
    simp only [w64s (show n < 4611686018427387904 by omega)]
    refine Ev.ite (fun hw => Ev.ite (fun h => Ev.cast (h1 true) ?_) (fun h => Ev.bind (sPrefer_ev l a n hl hi) (Ev.bind (sPrefer_ev l n a hl hi) (Ev.cast (h1 _) ?_)))) (fun hw => Ev.cast (h1 false) ?_)
    · have e : beats l (a : Int) (n : Int) = true := by simp only [beats, decide_eq_true h, Bool.true_or]
      simp only [hw, winsF, List.all_cons, e, Bool.true_and]
    · have e : beats l (a : Int) (n : Int) = decide (prefB a n l > prefB n a l) := by simp only [beats, decide_eq_false h, Bool.false_or]
      simp only [hw, winsF, List.all_cons, e, Bool.true_and]
      try rfl
    · have : w = false := by simpa using hw
      simp only [this, Bool.false_and]
include hN hl hi ho in
theorem sPair_l0 : ∀ (d n : Nat), n + d = N → Ev (fun k => spec_PairWinner.l0 k l (N : Int) (n : Int)) (pairF l N ((upto N).drop n)) := by
  intro d
  induction d with
  | zero =>
    intro n hd
    obtain rfl : n = N := by omega
    refine Ev.step (fun k => spec_PairWinner.l0.eq_2 ..) (Ev.neg (by omega) (Ev.step (fun k => spec_PairWinner.j1.eq_2 ..) (Ev.neg (by simp) (Ev.some_ ?_))))
    rw [upto_end]
    rfl
  | succ d ih =>
    intro n hd
    refine Ev.step (fun k => spec_PairWinner.l0.eq_2 ..) (Ev.pos (by omega) (Ev.bind (sAreRankings_ev l N hl hi) (Ev.step (fun k => spec_PairWinner.j1.eq_2 ..) (Ev.pos ho ?_))))
    refine Ev.cast (sPair_l1 l N hN hl hi n (by omega) _ (ih (n + 1) (by omega)) N 0 true (by omega)) ?_
    rw [upto_drop (show n < N by omega)]
    simp only [pairF, Bool.true_and, List.drop_zero]
include hN hl hi in
theorem iPair_l1 (a : Nat) (ha : a < N) (R : Int) (hR : Ev (fun k => impl_PairWinner.l0 k l (N : Int) (N : Int) ((a + 1 : Nat) : Int)) R) : ∀ (d n : Nat) (w : Bool), n + d = N → Ev (fun k => impl_PairWinner.l1 k l (N : Int) (a : Int) w (N : Int) (a : Int) (N : Int) (n : Int)) (if (w && winsF l a ((upto N).drop n)) = true then (a : Int) else R) := by
  intro d
  induction d with
  | zero =>
    intro n w hd
    obtain rfl : n = N := by omega
    refine Ev.step (fun k => impl_PairWinner.l1.eq_2 ..) (Ev.neg (by omega) ?_)
    rw [upto_end]
    simp only [winsF, List.all_nil, Bool.and_true, w64s (show a < 4611686018427387904 by omega)]
    refine Ev.ite (fun h => Ev.some_ ?_) (fun h => Ev.cast hR ?_)
    · rw [if_pos h]
    · rw [if_neg h]
  | succ d ih =>
    intro n w hd
    refine Ev.step (fun k => impl_PairWinner.l1.eq_2 ..) (Ev.pos (by omega) ?_)
    rw [upto_drop (show n < N by omega)]
    have h1 := fun w => ih (n + 1) w (by omega)
    generalize (upto N).drop (n + 1) = u at h1 ⊢
    simp only [w64s (show n < 4611686018427387904 by omega)]
    refine Ev.ite (fun hw => Ev.ite (fun h => Ev.cast (h1 true) ?_) (fun h => Ev.bind (iPrefer_ev l a n hl hi) (Ev.bind (iPrefer_ev l n a hl hi) (Ev.cast (h1 _) ?_)))) (fun hw => Ev.cast (h1 false) ?_)
    · have e : beats l (a : Int) (n : Int) = true := by simp only [beats, decide_eq_true h, Bool.true_or]
      simp only [hw, winsF, List.all_cons, e, Bool.true_and]
    · have e : beats l (a : Int) (n : Int) = decide (prefB a n l > prefB n a l) := by simp only [beats, decide_eq_false h, Bool.false_or]
      simp only [hw, winsF, List.all_cons, e, Bool.true_and]
      try rfl
    · have : w = false := by simpa using hw
      simp only [this, Bool.false_and]
include hN hl hi in
theorem iPair_l0 : ∀ (d n : Nat), n + d = N → Ev (fun k => impl_PairWinner.l0 k l (N : Int) (N : Int) (n : Int)) (pairF l N ((upto N).drop n)) := by
  intro d
  induction d with
  | zero =>
    intro n hd
    obtain rfl : n = N := by omega
    refine Ev.step (fun k => impl_PairWinner.l0.eq_2 ..) (Ev.neg (by omega) (Ev.some_ ?_))
    rw [upto_end]
    rfl
  | succ d ih =>
    intro n hd
    refine Ev.step (fun k => impl_PairWinner.l0.eq_2 ..) (Ev.pos (by omega) ?_)
    refine Ev.cast (iPair_l1 l N hN hl hi n (by omega) _ (ih (n + 1) (by omega)) N 0 true (by omega)) ?_
    rw [upto_drop (show n < N by omega)]
    simp only [pairF, Bool.true_and, List.drop_zero]
end
theorem sPairWinner_ev (l : List (List Int)) (n : Int) (hl : l.length ≤ 1099511627776) (hi : ∀ x ∈ l, x.length ≤ 1099511627776) : Ev (fun k => spec_PairWinner.f k l n) (pairW l n) := by
  unfold spec_PairWinner.f pairW
  by_cases ho : okRanks l n = true
  · rw [if_pos ho]
    have hn := (okRanks_iff.1 ho).2.1
    obtain ⟨N, rfl⟩ : ∃ N : Nat, n = (N : Int) := ⟨n.toNat, by omega⟩
    exact Ev.cast (sPair_l0 l N (by omega) hl hi ho N 0 (by omega)) (by simp)
  · rw [if_neg ho]
    refine Ev.step (fun k => spec_PairWinner.l0.eq_2 ..) (Ev.ite (fun _ => Ev.bind (sAreRankings_ev l n hl hi) (Ev.step (fun k => spec_PairWinner.j1.eq_2 ..) (Ev.neg ho (Ev.now _)))) (fun _ => Ev.step (fun k => spec_PairWinner.j1.eq_2 ..) (Ev.neg (by simp) (Ev.now _))))
theorem iPairWinner_ev (l : List (List Int)) (n : Int) (hl : l.length ≤ 1099511627776) (hi : ∀ x ∈ l, x.length ≤ 1099511627776) : Ev (fun k => impl_PairWinner.f k l n) (pairW l n) := by
  unfold impl_PairWinner.f pairW
  refine Ev.bind (iAreRankings_ev l n hl hi) (Ev.ite (fun ho => ?_) (fun ho => Ev.some_ ?_))
  · rw [if_pos ho]
    have hn := (okRanks_iff.1 ho).2.1
    obtain ⟨N, rfl⟩ : ∃ N : Nat, n = (N : Int) := ⟨n.toNat, by omega⟩
    exact Ev.cast (iPair_l0 l N (by omega) hl hi N 0 (by omega)) (by simp)
  · rw [if_neg ho]
end Go.Proofs.Ytcffappipgapbaa.L
