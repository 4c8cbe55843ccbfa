/- Rankings, turns and seeds: what the printed functions come to, for every list of at most 2^40 numbers. -/
import Derived.Test.YtcffappipgapbaaLRngS
import Derived.Test.YtcffappipgapbaaLRngI
import Derived.Test.YtcffappipgapbaaLHas
import Derived.Test.YtcffappipgapbaaLCont
import Derived.Test.YtcffappipgapbaaA51
import Derived.Test.YtcffappipgapbaaA53
set_option linter.unusedVariables false
set_option linter.unusedSimpArgs false
namespace Go.Proofs.Ytcffappipgapbaa.L
open Go Go.RowKit Go.Proofs.Ytcffappipgapbaa.A Go.Proofs.YtcffappipgapbaaW.PrintWords

theorem perm_of_sub : ∀ (r l : List Int), r.Nodup → (∀ x ∈ r, x ∈ l) → l.length ≤ r.length → r.Perm l
  | [], l, _, _, h => by
    obtain rfl : l = [] := List.eq_nil_of_length_eq_zero (by simpa using h)
    exact List.Perm.refl _
  | x :: r, l, hn, hs, h => by
    have hx : x ∈ l := hs x (by simp)
    have hp := List.perm_cons_erase hx
    have hn' := List.nodup_cons.1 hn
    have h1 : (l.erase x).length = l.length - 1 := List.length_erase_of_mem hx
    refine (List.Perm.cons x (perm_of_sub r (l.erase x) hn'.2 (fun y hy => ?_) ?_)).trans hp.symm
    · have : y ≠ x := fun e => hn'.1 (e ▸ hy)
      exact (List.mem_erase_of_ne this).2 (hs y (by simp [hy]))
    · simp only [List.length_cons] at h
      omega
/-- 0, 1, .., n - 1. -/
def upto (n : Nat) : List Int := (List.range n).map fun (i : Nat) => (i : Int)
theorem upto_length (n : Nat) : (upto n).length = n := by simp [upto]
theorem mem_upto {n : Nat} {x : Int} : x ∈ upto n ↔ 0 ≤ x ∧ x < n := by
  simp only [upto, List.mem_map, List.mem_range]
  constructor
  · rintro ⟨i, hi, rfl⟩
    omega
  · rintro ⟨h0, h1⟩
    exact ⟨x.toNat, by omega, by omega⟩
theorem upto_nodup (n : Nat) : (upto n).Nodup := by
  unfold upto
  refine List.Pairwise.map _ (fun a b h => ?_) List.nodup_range
  intro e
  exact h (by omega)
/-- A ranking of n choices. -/
def isRank (l : List Int) (n : Int) : Bool := inR n 1 8 && decide ((l.length : Int) = n) && (upto n.toNat).all fun c => decide (c ∈ l)
theorem isRank_iff {l : List Int} {n : Int} : isRank l n = true ↔ (1 ≤ n ∧ n ≤ 8) ∧ (l.length : Int) = n ∧ l.Perm (upto n.toNat) := by
  simp only [isRank, Bool.and_eq_true, decide_eq_true_eq, inR_iff, List.all_eq_true]
  constructor
  · rintro ⟨⟨h, h1⟩, h2⟩
    exact ⟨h, h1, (perm_of_sub _ l (upto_nodup _) h2 (by rw [upto_length]; omega)).symm⟩
  · rintro ⟨h, h1, h2⟩
    exact ⟨⟨h, h1⟩, fun c hc => h2.symm.subset hc⟩
def rankF (n : Int) (p : List Int) : List Int → Bool
  | [] => true
  | x :: t => inR x 0 (n - 1) && !(decide (x ∈ p)) && rankF n (p ++ [x]) t
theorem rankF_iff (n : Int) : ∀ (t p : List Int), rankF n p t = true ↔ (∀ x ∈ t, 0 ≤ x ∧ x ≤ n - 1) ∧ t.Nodup ∧ ∀ x ∈ t, x ∉ p
  | [], p => by simp [rankF]
  | x :: t, p => by
    simp only [rankF, Bool.and_eq_true, inR_iff, Bool.not_eq_true', decide_eq_false_iff_not, rankF_iff n t, List.nodup_cons, List.mem_cons, List.mem_append, List.not_mem_nil, or_false, forall_eq_or_imp, not_or]
    constructor
    · rintro ⟨⟨h0, h1⟩, h2, h3, h4⟩
      exact ⟨⟨h0, h2⟩, ⟨fun hx => (h4 x hx).2 rfl, h3⟩, h1, fun y hy => (h4 y hy).1⟩
    · rintro ⟨⟨h0, h2⟩, ⟨h3, h4⟩, h1, h5⟩
      exact ⟨⟨h0, h1⟩, h2, h4, fun y hy => ⟨h5 y hy, fun e => h3 (e ▸ hy)⟩⟩
theorem rankF_rank {l : List Int} {n : Int} (hn : 1 ≤ n ∧ n ≤ 8) (hl : (l.length : Int) = n) : rankF n [] l = isRank l n := by
  rw [Bool.eq_iff_iff, rankF_iff, isRank_iff]
  constructor
  · rintro ⟨h0, h1, _⟩
    refine ⟨hn, hl, perm_of_sub l _ h1 (fun x hx => mem_upto.2 ?_) (by rw [upto_length]; omega)⟩
    have := h0 x hx
    omega
  · rintro ⟨_, _, h⟩
    refine ⟨fun x hx => ?_, h.symm.nodup (upto_nodup _), by simp⟩
    have := mem_upto.1 (h.subset hx)
    omega
theorem sIsRanking_l0 (l : List Int) (a : Int) (ha : 1 ≤ a ∧ a ≤ 8) (hl : l.length ≤ 1099511627776) : ∀ (d n : Nat), n + d = l.length → Ev (fun k => spec_IsRanking.l0 k l a (n : Int)) (rankF a (l.take n) (l.drop n)) := by
  intro d
  induction d with
  | zero =>
    intro n hd
    refine Ev.step (fun k => spec_IsRanking.l0.eq_2 ..) ?_
    refine Ev.neg (by omega) (Ev.some_ ?_)
    rw [List.drop_eq_nil_of_le (by omega)]
    simp [rankF]
  | succ d ih =>
    intro n hd
    refine Ev.step (fun k => spec_IsRanking.l0.eq_2 ..) ?_
    refine Ev.pos (by omega) (Ev.pos (by omega) ?_)
    simp only [w64s (show n < 4611686018427387904 by omega), rd_at (show n < l.length by omega), l1In_eq, Option.bind_some, w64 (show -9223372036854775808 ≤ a - 1 by omega) (show a - 1 ≤ 9223372036854775807 by omega), Int.toNat_natCast]
    have h1 := ih (n + 1) (by omega)
    rw [take_snoc l n (by omega)] at h1
    rw [List.drop_eq_getElem_cons (show n < l.length by omega)]
    generalize l.drop (n + 1) = u at h1 ⊢
    refine Ev.ite (fun h => Ev.pos (by omega) (Ev.bind (l4Has_ev (l.take n) l[n] (by rw [List.length_take]; omega)) (Ev.ite (fun h2 => Ev.some_ ?_) (fun h2 => Ev.cast h1 ?_)))) (fun h => Ev.some_ ?_)
    · simp [rankF, h2]
    · simp [rankF, h, h2]
    · simp [rankF, h]
theorem sIsRanking_ev (l : List Int) (a : Int) (hl : l.length ≤ 1099511627776) : Ev (fun k => spec_IsRanking.f k l a) (isRank l a) := by
  unfold spec_IsRanking.f
  simp only [l1In_eq, Option.bind_some]
  refine Ev.ite (fun h => ?_) (fun h => ?_)
  · refine Ev.step (fun k => spec_IsRanking.j0.eq_2 ..) ?_
    have ha := inR_iff.1 h
    refine Ev.ite (fun h2 => Ev.some_ ?_) (fun h2 => Ev.cast (sIsRanking_l0 l a ha hl l.length 0 (by omega)) ?_)
    · have : ¬ (l.length : Int) = a := by simpa using h2
      simp [isRank, this]
    · have : (l.length : Int) = a := by simpa using h2
      simpa using rankF_rank ha this
  · refine Ev.step (fun k => spec_IsRanking.j0.eq_2 ..) ?_
    refine Ev.pos rfl (Ev.some_ ?_)
    simp [isRank, h]
theorem iIsRanking_l0 (l : List Int) (N : Nat) (hN : N ≤ 8) (hl : l.length ≤ 1099511627776) : ∀ (d n : Nat), n + d = N → Ev (fun k => impl_IsRanking.l0 k l (N : Int) (n : Int)) (((upto N).drop n).all fun c => decide (c ∈ l)) := by
  intro d
  induction d with
  | zero =>
    intro n hd
    refine Ev.step (fun k => impl_IsRanking.l0.eq_2 ..) ?_
    refine Ev.neg (by omega) (Ev.some_ ?_)
    rw [List.drop_eq_nil_of_le (by rw [upto_length]; omega)]
    rfl
  | succ d ih =>
    intro n hd
    refine Ev.step (fun k => impl_IsRanking.l0.eq_2 ..) ?_
    refine Ev.pos (by omega) (Ev.bind (Contains_ev l n hl) ?_)
    simp only [w64s (show n < 4611686018427387904 by omega)]
    have h1 := ih (n + 1) (by omega)
    have hu : (upto N)[n]'(by rw [upto_length]; omega) = (n : Int) := by simp [upto]
    rw [List.drop_eq_getElem_cons (show n < (upto N).length by rw [upto_length]; omega), hu]
    generalize (upto N).drop (n + 1) = u at h1 ⊢
    refine Ev.ite (fun h => Ev.cast h1 ?_) (fun h => Ev.some_ ?_)
    · have : (n : Int) ∈ l := by simpa using h
      simp [this]
    · have : ¬ (n : Int) ∈ l := by simpa using h
      simp [this]
theorem iIsRanking_ev (l : List Int) (a : Int) (hl : l.length ≤ 1099511627776) : Ev (fun k => impl_IsRanking.f k l a) (isRank l a) := by
  unfold impl_IsRanking.f
  simp only [InRange_eq, Option.bind_some]
  refine Ev.ite (fun h => ?_) (fun h => ?_)
  · refine Ev.step (fun k => impl_IsRanking.j0.eq_2 ..) ?_
    have ha := inR_iff.1 h
    obtain ⟨N, rfl⟩ : ∃ N : Nat, a = (N : Int) := ⟨a.toNat, by omega⟩
    refine Ev.ite (fun h2 => Ev.some_ ?_) (fun h2 => Ev.cast (iIsRanking_l0 l N (by omega) hl N 0 (by omega)) ?_)
    · have : ¬ (l.length : Int) = N := by simpa using h2
      simp only [isRank, decide_eq_false this, Bool.and_false, Bool.false_and]
    · have : (l.length : Int) = N := by simpa using h2
      simp only [isRank, decide_eq_true this, h, Bool.and_true, Bool.true_and, Int.toNat_natCast, List.drop_zero]
  · refine Ev.step (fun k => impl_IsRanking.j0.eq_2 ..) ?_
    refine Ev.pos rfl (Ev.some_ ?_)
    simp [isRank, h]
end Go.Proofs.Ytcffappipgapbaa.L
