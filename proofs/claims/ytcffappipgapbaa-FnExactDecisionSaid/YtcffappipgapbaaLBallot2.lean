/- Ballots: votes, sums, decisions: what the printed functions come to, for every list of at most 2^40 ballots. -/
import Derived.Test.YtcffappipgapbaaLBallot
import Derived.Test.YtcffappipgapbaaA43
import Derived.Test.YtcffappipgapbaaA45
import Derived.Test.YtcffappipgapbaaA44
import Derived.Test.YtcffappipgapbaaA46
import Derived.Test.YtcffappipgapbaaA23
import Derived.Test.YtcffappipgapbaaA29
set_option linter.unusedVariables false
set_option linter.unusedSimpArgs false
namespace Go.Proofs.Ytcffappipgapbaa.L
open Go Go.RowKit Go.Proofs.Ytcffappipgapbaa.A Go.Proofs.YtcffappipgapbaaW.PrintWords

theorem ballotsF_mem : ∀ (l : List S63) (p : Int), ballotsF p l = true → ∀ b ∈ l, okB b = true
  | [], _, _, b, hb => by cases hb
  | x :: l, p, h, b, hb => by
    simp only [ballotsF, Bool.and_eq_true] at h
    rcases List.mem_cons.1 hb with rfl | hb
    · exact h.1.1
    · exact ballotsF_mem l x.f0 h.2 b hb
theorem okBallots_mem {l : List S63} (h : okBallots l = true) : ∀ b ∈ l, okB b = true := by
  simp only [okBallots, Bool.and_eq_true] at h
  exact ballotsF_mem l 0 h.1
theorem okBallots_len {l : List S63} (h : okBallots l = true) : l.length ≤ 9 := by
  simp only [okBallots, Bool.and_eq_true, decide_eq_true_eq] at h
  omega
/-- Whom a ballot gives more. -/
def teamB (b : S63) : Int := if b.f1 > b.f2 then 1 else 2
theorem l16Of_eq (b : S63) : spec_l16Of.f b.f0 b.f1 b.f2 = some (teamB b) := by
  unfold spec_l16Of.f teamB
  split <;> rfl
theorem teamOf_eq (b : S63) : impl_teamOf.f b.f0 b.f1 b.f2 = some (teamB b) := by
  unfold impl_teamOf.f teamB
  split <;> rfl
def votesB (t : Int) : List S63 → Int
  | [] => 0
  | b :: l => (if teamB b = t then 1 else 0) + votesB t l
def sumB (t : Int) : List S63 → Int
  | [] => 0
  | b :: l => (if t = 1 then b.f1 else if t = 2 then b.f2 else 0) + sumB t l
theorem votesB_le (t : Int) : ∀ l : List S63, 0 ≤ votesB t l ∧ votesB t l ≤ l.length
  | [] => by simp [votesB]
  | b :: l => by
    have := votesB_le t l
    simp only [votesB, List.length_cons]
    split <;> omega
theorem sumB_le (t : Int) : ∀ l : List S63, (∀ b ∈ l, okB b = true) → 0 ≤ sumB t l ∧ sumB t l ≤ 100 * l.length
  | [], _ => by simp [sumB]
  | b :: l, h => by
    have h1 := sumB_le t l (fun x hx => h x (by simp [hx]))
    have h2 := okB_iff.1 (h b (by simp))
    simp only [sumB, List.length_cons]
    split
    · omega
    · split <;> omega
theorem sVotes_l0 (l : List S63) (t : Int) (hl : l.length ≤ 1099511627776) (ho : okBallots l = true) : ∀ (d n : Nat) (acc : Int), n + d = l.length → 0 ≤ acc → acc + d ≤ 4611686018427387904 → Ev (fun k => spec_VotesFor.l0 k l t acc (n : Int)) (acc + votesB t (l.drop n)) := by
  intro d
  induction d with
  | zero =>
    intro n acc hd h0 h1
    refine Ev.step (fun k => spec_VotesFor.l0.eq_2 ..) ?_
    refine Ev.neg (by omega) (Ev.step (fun k => spec_VotesFor.j1.eq_2 ..) (Ev.neg (by simp) (Ev.some_ ?_)))
    rw [List.drop_eq_nil_of_le (by omega)]
    simp [votesB]
  | succ d ih =>
    intro n acc hd h0 h1
    refine Ev.step (fun k => spec_VotesFor.l0.eq_2 ..) ?_
    refine Ev.pos (by omega) (Ev.bind (sAreBallots_ev l hl) ?_)
    refine Ev.step (fun k => spec_VotesFor.j1.eq_2 ..) (Ev.pos ho (Ev.pos (by omega) (Ev.pos (by omega) ?_)))
    simp only [w64s (show n < 4611686018427387904 by omega), rdBallot (show n < l.length by omega), l16Of_eq, Option.bind_some, w64 (show -9223372036854775808 ≤ acc + 1 by omega) (show acc + 1 ≤ 9223372036854775807 by omega)]
    have h1 := fun acc h0 h1 => ih (n + 1) acc (by omega) h0 h1
    rw [List.drop_eq_getElem_cons (show n < l.length by omega)]
    generalize l.drop (n + 1) = u at h1 ⊢
    refine Ev.ite (fun h => Ev.cast (h1 (acc + 1) (by omega) (by omega)) ?_) (fun h => Ev.cast (h1 acc (by omega) (by omega)) ?_)
    · simp [votesB, h]; omega
    · simp [votesB, h]
theorem iVotes_l0 (l : List S63) (t : Int) (hl : l.length ≤ 1099511627776) : ∀ (d n : Nat) (acc : Int), n + d = l.length → 0 ≤ acc → acc + d ≤ 4611686018427387904 → Ev (fun k => impl_VotesFor.l0 k t acc l (l.length : Int) (n : Int)) (acc + votesB t (l.drop n)) := by
  intro d
  induction d with
  | zero =>
    intro n acc hd h0 h1
    refine Ev.step (fun k => impl_VotesFor.l0.eq_2 ..) ?_
    refine Ev.neg (by omega) (Ev.some_ ?_)
    rw [List.drop_eq_nil_of_le (by omega)]
    simp [votesB]
  | succ d ih =>
    intro n acc hd h0 h1
    refine Ev.step (fun k => impl_VotesFor.l0.eq_2 ..) ?_
    refine Ev.pos (by omega) (Ev.pos (by omega) (Ev.pos (by omega) ?_))
    simp only [w64s (show n < 4611686018427387904 by omega), rdBallot (show n < l.length by omega), teamOf_eq, Option.bind_some, w64 (show -9223372036854775808 ≤ acc + 1 by omega) (show acc + 1 ≤ 9223372036854775807 by omega)]
    have h1 := fun acc h0 h1 => ih (n + 1) acc (by omega) h0 h1
    rw [List.drop_eq_getElem_cons (show n < l.length by omega)]
    generalize l.drop (n + 1) = u at h1 ⊢
    refine Ev.ite (fun h => Ev.cast (h1 (acc + 1) (by omega) (by omega)) ?_) (fun h => Ev.cast (h1 acc (by omega) (by omega)) ?_)
    · simp [votesB, h]; omega
    · simp [votesB, h]
def votes (l : List S63) (t : Int) : Int := if okBallots l = true then votesB t l else 0
theorem sVotesFor_ev (l : List S63) (t : Int) (hl : l.length ≤ 1099511627776) : Ev (fun k => spec_VotesFor.f k l t) (votes l t) := by
  unfold spec_VotesFor.f votes
  by_cases ho : okBallots l = true
  · rw [if_pos ho]
    exact Ev.cast (sVotes_l0 l t hl ho l.length 0 0 (by omega) (by omega) (by omega)) (by simp)
  · rw [if_neg ho]
    refine Ev.step (fun k => spec_VotesFor.l0.eq_2 ..) ?_
    refine Ev.ite (fun _ => Ev.bind (sAreBallots_ev l hl) ?_) (fun _ => ?_)
    · exact Ev.step (fun k => spec_VotesFor.j1.eq_2 ..) (Ev.neg ho (Ev.now _))
    · exact Ev.step (fun k => spec_VotesFor.j1.eq_2 ..) (Ev.neg (by simp) (Ev.now _))
theorem iVotesFor_ev (l : List S63) (t : Int) (hl : l.length ≤ 1099511627776) : Ev (fun k => impl_VotesFor.f k l t) (votes l t) := by
  unfold impl_VotesFor.f votes
  refine Ev.bind (iAreBallots_ev l hl) (Ev.ite (fun ho => ?_) (fun ho => Ev.some_ ?_))
  · rw [if_pos ho]
    exact Ev.cast (iVotes_l0 l t hl l.length 0 0 (by omega) (by omega) (by omega)) (by simp)
  · rw [if_neg ho]
theorem sSum_l0 (l : List S63) (t : Int) (hl : l.length ≤ 1099511627776) (ho : okBallots l = true) : ∀ (d n : Nat) (acc : Int), n + d = l.length → 0 ≤ acc → acc + 100 * d ≤ 4611686018427387904 → Ev (fun k => spec_SumFor.l0 k l t acc (n : Int)) (acc + sumB t (l.drop n)) := by
  intro d
  induction d with
  | zero =>
    intro n acc hd h0 h1
    refine Ev.step (fun k => spec_SumFor.l0.eq_2 ..) ?_
    refine Ev.neg (by omega) (Ev.step (fun k => spec_SumFor.j1.eq_2 ..) (Ev.neg (by simp) (Ev.some_ ?_)))
    rw [List.drop_eq_nil_of_le (by omega)]
    simp [sumB]
  | succ d ih =>
    intro n acc hd h0 h1
    have hb := okB_iff.1 (okBallots_mem ho l[n] (List.getElem_mem _))
    refine Ev.step (fun k => spec_SumFor.l0.eq_2 ..) ?_
    refine Ev.pos (by omega) (Ev.bind (sAreBallots_ev l hl) ?_)
    refine Ev.step (fun k => spec_SumFor.j1.eq_2 ..) (Ev.pos ho ?_)
    simp only [w64s (show n < 4611686018427387904 by omega), rdBallot (show n < l.length by omega), w64 (show -9223372036854775808 ≤ acc + l[n].f1 by omega) (show acc + l[n].f1 ≤ 9223372036854775807 by omega), w64 (show -9223372036854775808 ≤ acc + l[n].f2 by omega) (show acc + l[n].f2 ≤ 9223372036854775807 by omega)]
    have h1 := fun acc h0 h1 => ih (n + 1) acc (by omega) h0 h1
    rw [List.drop_eq_getElem_cons (show n < l.length by omega)]
    generalize l.drop (n + 1) = u at h1 ⊢
    refine Ev.ite (fun h => Ev.pos (by omega) (Ev.pos (by omega) (Ev.cast (h1 (acc + l[n].f1) (by omega) (by omega)) ?_))) (fun h => Ev.ite (fun h2 => Ev.pos (by omega) (Ev.pos (by omega) (Ev.cast (h1 (acc + l[n].f2) (by omega) (by omega)) ?_))) (fun h2 => Ev.cast (h1 acc (by omega) (by omega)) ?_))
    · simp [sumB, h]; omega
    · simp [sumB, h2]; omega
    · simp [sumB, h, h2]
theorem iSum_l0 (l : List S63) (t : Int) (hl : l.length ≤ 1099511627776) (ho : okBallots l = true) : ∀ (d n : Nat) (acc : Int), n + d = l.length → 0 ≤ acc → acc + 100 * d ≤ 4611686018427387904 → Ev (fun k => impl_SumFor.l0 k t acc l (l.length : Int) (n : Int)) (acc + sumB t (l.drop n)) := by
  intro d
  induction d with
  | zero =>
    intro n acc hd h0 h1
    refine Ev.step (fun k => impl_SumFor.l0.eq_2 ..) ?_
    refine Ev.neg (by omega) (Ev.some_ ?_)
    rw [List.drop_eq_nil_of_le (by omega)]
    simp [sumB]
  | succ d ih =>
    intro n acc hd h0 h1
    have hb := okB_iff.1 (okBallots_mem ho l[n] (List.getElem_mem _))
    refine Ev.step (fun k => impl_SumFor.l0.eq_2 ..) ?_
    refine Ev.pos (by omega) (Ev.pos (by omega) (Ev.pos (by omega) ?_))
    simp only [w64s (show n < 4611686018427387904 by omega), rdBallot (show n < l.length by omega), w64 (show -9223372036854775808 ≤ acc + l[n].f1 by omega) (show acc + l[n].f1 ≤ 9223372036854775807 by omega), w64 (show -9223372036854775808 ≤ acc + l[n].f2 by omega) (show acc + l[n].f2 ≤ 9223372036854775807 by omega)]
    have h1 := fun acc h0 h1 => ih (n + 1) acc (by omega) h0 h1
    rw [List.drop_eq_getElem_cons (show n < l.length by omega)]
    generalize l.drop (n + 1) = u at h1 ⊢
    refine Ev.ite (fun h => Ev.cast (h1 (acc + l[n].f1) (by omega) (by omega)) ?_) (fun h => Ev.ite (fun h2 => Ev.cast (h1 (acc + l[n].f2) (by omega) (by omega)) ?_) (fun h2 => Ev.cast (h1 acc (by omega) (by omega)) ?_))
    · simp [sumB, h]; omega
    · simp [sumB, h2]; omega
    · simp [sumB, h, h2]
def sumFor (l : List S63) (t : Int) : Int := if okBallots l = true then sumB t l else 0
theorem sSumFor_ev (l : List S63) (t : Int) (hl : l.length ≤ 1099511627776) : Ev (fun k => spec_SumFor.f k l t) (sumFor l t) := by
  unfold spec_SumFor.f sumFor
  by_cases ho : okBallots l = true
  · rw [if_pos ho]
    exact Ev.cast (sSum_l0 l t hl ho l.length 0 0 (by omega) (by omega) (by omega)) (by simp)
  · rw [if_neg ho]
    refine Ev.step (fun k => spec_SumFor.l0.eq_2 ..) ?_
    refine Ev.ite (fun _ => Ev.bind (sAreBallots_ev l hl) ?_) (fun _ => ?_)
    · exact Ev.step (fun k => spec_SumFor.j1.eq_2 ..) (Ev.neg ho (Ev.now _))
    · exact Ev.step (fun k => spec_SumFor.j1.eq_2 ..) (Ev.neg (by simp) (Ev.now _))
theorem iSumFor_ev (l : List S63) (t : Int) (hl : l.length ≤ 1099511627776) : Ev (fun k => impl_SumFor.f k l t) (sumFor l t) := by
  unfold impl_SumFor.f sumFor
  refine Ev.bind (iAreBallots_ev l hl) (Ev.ite (fun ho => ?_) (fun ho => Ev.some_ ?_))
  · rw [if_pos ho]
    exact Ev.cast (iSum_l0 l t hl ho l.length 0 0 (by omega) (by omega) (by omega)) (by simp)
  · rw [if_neg ho]
theorem votes_le (l : List S63) (t : Int) : 0 ≤ votes l t ∧ votes l t ≤ 9 := by
  unfold votes
  split
  · rename_i h
    have h1 := okBallots_len h
    have h2 := votesB_le t l
    omega
  · omega
theorem sumFor_le (l : List S63) (t : Int) : 0 ≤ sumFor l t ∧ sumFor l t ≤ 900 := by
  unfold sumFor
  split
  · rename_i h
    have h1 := okBallots_len h
    have h2 := sumB_le t l (okBallots_mem h)
    omega
  · omega
end Go.Proofs.Ytcffappipgapbaa.L
