/- Ballots: what the printed functions come to, for every list of at most 2^40. -/
import Derived.Test.YtcffappipgapbaaLRngS
import Derived.Test.YtcffappipgapbaaLRngI
import Derived.Test.YtcffappipgapbaaA25
import Derived.Test.YtcffappipgapbaaA31
import Derived.Test.YtcffappipgapbaaA20
import Derived.Test.YtcffappipgapbaaA21
import Derived.Test.YtcffappipgapbaaA27
import Derived.Test.YtcffappipgapbaaA22
import Derived.Test.YtcffappipgapbaaA28
set_option linter.unusedVariables false
set_option linter.unusedSimpArgs false
namespace Go.Proofs.Ytcffappipgapbaa.L
open Go Go.RowKit Go.Proofs.Ytcffappipgapbaa.A Go.Proofs.YtcffappipgapbaaW.PrintWords

theorem rdLBallot {l : List S65} {n : Nat} (h : n < l.length) : rd_T65 l (n : Int) = l[n] := by
  simp [rd_T65, h]
theorem rdBallot {l : List S63} {n : Nat} (h : n < l.length) : rd_T63 l (n : Int) = l[n] := by
  simp [rd_T63, h]
def cvBallot (x : S65) : S63 := ⟨x.f0, x.f1, x.f2⟩
theorem toBallotS_l0 (l : List S65) (hl : l.length ≤ 1099511627776) : ∀ (d n : Nat) (xs : List S63), n + d = l.length → xs.length = l.length → xs.take n = (l.map cvBallot).take n → Ev (fun k => laws_toBallotS.l0 k l xs (n : Int)) (l.map cvBallot) := by
  intro d
  induction d with
  | zero =>
    intro n xs hd hx ht
    refine Ev.step (fun k => laws_toBallotS.l0.eq_2 ..) ?_
    refine Ev.neg (by omega) (Ev.some_ ?_)
    rw [List.take_of_length_le (by omega), List.take_of_length_le (by simp; omega)] at ht
    exact ht
  | succ d ih =>
    intro n xs hd hx ht
    refine Ev.step (fun k => laws_toBallotS.l0.eq_2 ..) ?_
    refine Ev.pos (by omega) (Ev.pos (by omega) ?_)
    simp only [laws_toBallot.f, Option.bind_some]
    refine Ev.pos (by omega) ?_
    simp only [w64s (show n < 4611686018427387904 by omega), rdLBallot (show n < l.length by omega), Int.toNat_natCast]
    refine ih (n + 1) _ (by omega) (by simp [hx]) ?_
    rw [List.take_succ_eq_append_getElem (by simp; omega), List.take_succ_eq_append_getElem (by simp; omega), List.take_set_of_le (by omega), ht]
    simp [cvBallot]
theorem toBallotS_ev (l : List S65) (hl : l.length ≤ 1099511627776) : Ev (fun k => laws_toBallotS.f k l) (l.map cvBallot) := by
  unfold laws_toBallotS.f
  refine Ev.pos (by omega) (Ev.pos (by simp; omega) ?_)
  exact toBallotS_l0 l hl l.length 0 _ (by omega) (by simp) (by simp)
theorem eqBallot_same (x : S63) : laws_eqBallot.f x.f0 x.f1 x.f2 x.f0 x.f1 x.f2 = some true := by simp [laws_eqBallot.f]
theorem eqBallotS_l0 (l : List S63) (hl : l.length ≤ 1099511627776) : ∀ (d n : Nat), n + d = l.length → Ev (fun k => laws_eqBallotS.l0 k l l (n : Int)) true := by
  intro d
  induction d with
  | zero =>
    intro n hd
    refine Ev.step (fun k => laws_eqBallotS.l0.eq_2 ..) ?_
    exact Ev.neg (by omega) (Ev.now _)
  | succ d ih =>
    intro n hd
    refine Ev.step (fun k => laws_eqBallotS.l0.eq_2 ..) ?_
    refine Ev.pos (by omega) (Ev.pos (by omega) (Ev.pos (by omega) ?_))
    simp only [w64s (show n < 4611686018427387904 by omega), rdBallot (show n < l.length by omega), eqBallot_same, Option.bind_some]
    exact Ev.pos trivial (ih (n + 1) (by omega))
theorem eqBallotS_ev (l : List S63) (hl : l.length ≤ 1099511627776) : Ev (fun k => laws_eqBallotS.f k l l) true := by
  unfold laws_eqBallotS.f
  exact Ev.pos rfl (eqBallotS_l0 l hl l.length 0 (by omega))
theorem szBallotS_eq (l : List S65) (left : Int) (h0 : 0 ≤ left) (h1 : left ≤ 1048576) (hl : l.length ≤ 9223372036854775807) : laws_szBallotS.f l left = some (if left - l.length < 0 then -1 else left - l.length) := by
  unfold laws_szBallotS.f
  rw [w64 (by omega) (by omega)]
  split <;> rfl

def okB (b : S63) : Bool := inR b.f0 1 99 && inR b.f1 0 100 && inR b.f2 0 100 && (b.f1 != b.f2)
theorem sIsBallot_eq (b : S63) : spec_IsBallot.f b.f0 b.f1 b.f2 = some (okB b) := by
  unfold spec_IsBallot.f okB
  simp only [l1In_eq, Option.bind_some]
  cases inR b.f0 1 99 <;> cases inR b.f1 0 100 <;> cases inR b.f2 0 100 <;> simp
theorem iIsBallot_eq (b : S63) : impl_IsBallot.f b.f0 b.f1 b.f2 = some (okB b) := by
  unfold impl_IsBallot.f okB
  simp only [InRange_eq, Option.bind_some]
  cases inR b.f0 1 99 <;> cases inR b.f1 0 100 <;> cases inR b.f2 0 100 <;> simp
theorem okB_iff {b : S63} : okB b = true ↔ (1 ≤ b.f0 ∧ b.f0 ≤ 99) ∧ (0 ≤ b.f1 ∧ b.f1 ≤ 100) ∧ (0 ≤ b.f2 ∧ b.f2 ≤ 100) ∧ b.f1 ≠ b.f2 := by
  simp only [okB, Bool.and_eq_true, inR_iff, bne_iff_ne]
  constructor
  · rintro ⟨⟨⟨a, b⟩, c⟩, d⟩
    exact ⟨a, b, c, d⟩
  · rintro ⟨a, b, c, d⟩
    exact ⟨⟨⟨a, b⟩, c⟩, d⟩
/-- Ballots from a place on: each is one, and its judge's Id behind the one ahead of it. -/
def ballotsF (p : Int) : List S63 → Bool
  | [] => true
  | b :: l => okB b && decide (p < b.f0) && ballotsF b.f0 l
def okBallots (l : List S63) : Bool := ballotsF 0 l && decide ((l.length : Int) ≤ 9)
theorem sAreBallots_l0 (l : List S63) (hl : l.length ≤ 1099511627776) : ∀ (d n : Nat) (p : Int), n + d = l.length → (n = 0 → p = 0) → (∀ h : 0 < n ∧ n ≤ l.length, p = (l[n - 1]'(by omega)).f0) → Ev (fun k => spec_AreBallots.l0 k l (n : Int)) (ballotsF p (l.drop n) && decide ((l.length : Int) ≤ 9)) := by
  intro d
  induction d with
  | zero =>
    intro n p hd hp0 hp
    refine Ev.step (fun k => spec_AreBallots.l0.eq_2 ..) ?_
    refine Ev.neg (by omega) (Ev.some_ ?_)
    rw [List.drop_eq_nil_of_le (by omega)]
    simp [ballotsF]
  | succ d ih =>
    intro n p hd hp0 hp
    refine Ev.step (fun k => spec_AreBallots.l0.eq_2 ..) ?_
    refine Ev.pos (by omega) (Ev.pos (by omega) ?_)
    simp only [w64s (show n < 4611686018427387904 by omega), rdBallot (show n < l.length by omega), sIsBallot_eq, Option.bind_some]
    have h1 := ih (n + 1) (l[n]).f0 (by omega) (by omega) (fun h => by simp)
    rw [List.drop_eq_getElem_cons (show n < l.length by omega)]
    generalize l.drop (n + 1) = u at h1 ⊢
    refine Ev.ite (fun h => Ev.ite (fun h2 => ?_) (fun h2 => Ev.cast h1 ?_)) (fun h => Ev.some_ ?_)
    · obtain ⟨m, rfl⟩ : ∃ m, n = m + 1 := ⟨n - 1, by omega⟩
      simp only [w64p (show m < 4611686018427387904 by omega), rdBallot (show m < l.length by omega)]
      have hp' : p = l[m].f0 := hp ⟨by omega, by omega⟩
      refine Ev.pos (by omega) (Ev.pos (by omega) (Ev.ite (fun h3 => Ev.some_ ?_) (fun h3 => Ev.cast h1 ?_)))
      · have : ¬ p < l[m + 1].f0 := by omega
        simp [ballotsF, this]
      · have : p < l[m + 1].f0 := by omega
        simp [ballotsF, this, h]
    · have h0 : n = 0 := by omega
      have := (okB_iff.1 h).1
      have : p < l[n].f0 := by rw [hp0 h0]; omega
      simp [ballotsF, h, this]
    · simp [ballotsF, h]
theorem sAreBallots_ev (l : List S63) (hl : l.length ≤ 1099511627776) : Ev (fun k => spec_AreBallots.f k l) (okBallots l) := by
  unfold spec_AreBallots.f
  exact Ev.cast (sAreBallots_l0 l hl l.length 0 0 (by omega) (fun _ => rfl) (fun h => by omega)) (by simp [okBallots])
theorem iAreBallots_l0 (l : List S63) (hl : l.length ≤ 1099511627776) : ∀ (d n : Nat) (p : Int), n + d = l.length → (n = 0 → p = 0) → (∀ h : 0 < n ∧ n ≤ l.length, p = (l[n - 1]'(by omega)).f0) → Ev (fun k => impl_AreBallots.l0 k l l (l.length : Int) (n : Int)) (ballotsF p (l.drop n)) := by
  intro d
  induction d with
  | zero =>
    intro n p hd hp0 hp
    refine Ev.step (fun k => impl_AreBallots.l0.eq_2 ..) ?_
    refine Ev.neg (by omega) (Ev.some_ ?_)
    rw [List.drop_eq_nil_of_le (by omega)]
    simp [ballotsF]
  | succ d ih =>
    intro n p hd hp0 hp
    refine Ev.step (fun k => impl_AreBallots.l0.eq_2 ..) ?_
    refine Ev.pos (by omega) (Ev.pos (by omega) (Ev.pos (by omega) ?_))
    simp only [w64s (show n < 4611686018427387904 by omega), rdBallot (show n < l.length by omega), iIsBallot_eq, Option.bind_some]
    have h1 := ih (n + 1) (l[n]).f0 (by omega) (by omega) (fun h => by simp)
    rw [List.drop_eq_getElem_cons (show n < l.length by omega)]
    generalize l.drop (n + 1) = u at h1 ⊢
    refine Ev.ite (fun h => Ev.ite (fun h2 => ?_) (fun h2 => Ev.cast h1 ?_)) (fun h => Ev.some_ ?_)
    · obtain ⟨m, rfl⟩ : ∃ m, n = m + 1 := ⟨n - 1, by omega⟩
      simp only [w64p (show m < 4611686018427387904 by omega), rdBallot (show m < l.length by omega)]
      have hp' : p = l[m].f0 := hp ⟨by omega, by omega⟩
      refine Ev.pos (by omega) (Ev.pos (by omega) (Ev.ite (fun h3 => Ev.some_ ?_) (fun h3 => Ev.cast h1 ?_)))
      · have : ¬ p < l[m + 1].f0 := by omega
        simp [ballotsF, this]
      · have : p < l[m + 1].f0 := by omega
        simp [ballotsF, this, h]
    · have h0 : n = 0 := by omega
      have := (okB_iff.1 h).1
      have : p < l[n].f0 := by rw [hp0 h0]; omega
      simp [ballotsF, h, this]
    · simp [ballotsF, h]
theorem iAreBallots_ev (l : List S63) (hl : l.length ≤ 1099511627776) : Ev (fun k => impl_AreBallots.f k l) (okBallots l) := by
  unfold impl_AreBallots.f
  refine Ev.ite (fun h => Ev.some_ ?_) (fun h => Ev.cast (iAreBallots_l0 l hl l.length 0 0 (by omega) (fun _ => rfl) (fun h => by omega)) ?_)
  · have : ¬ (l.length : Int) ≤ 9 := by omega
    simp [okBallots, this]
  · have : (l.length : Int) ≤ 9 := by omega
    simp [okBallots, this]
end Go.Proofs.Ytcffappipgapbaa.L
