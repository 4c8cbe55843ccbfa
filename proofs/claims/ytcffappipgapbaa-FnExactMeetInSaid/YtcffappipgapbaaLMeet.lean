/- Where two seeds meet: what the printed MeetIn functions come to: alike, for every three numbers. -/
import Derived.Test.YtcffappipgapbaaLSeed
import Derived.Test.YtcffappipgapbaaLCont
import Derived.Test.YtcffappipgapbaaLRngS
import Derived.Test.YtcffappipgapbaaA15
import Derived.Test.YtcffappipgapbaaA18
set_option linter.unusedVariables false
set_option linter.unusedSimpArgs false
namespace Go.Proofs.Ytcffappipgapbaa.L
open Go Go.RowKit Go.Proofs.Ytcffappipgapbaa.A Go.Proofs.YtcffappipgapbaaW.PrintWords

def meetChk (n : Nat) : Bool := (List.range n).all fun a => (List.range n).all fun b => (impl_MeetIn.f 60 n ((a : Int) + 1) ((b : Int) + 1)).isSome && decide (spec_MeetIn.f 60 n ((a : Int) + 1) ((b : Int) + 1) = impl_MeetIn.f 60 n ((a : Int) + 1) ((b : Int) + 1))
theorem meet2 : meetChk 2 = true := by decide +kernel
theorem meet4 : meetChk 4 = true := by decide +kernel
theorem meet8 : meetChk 8 = true := by decide +kernel
theorem meet16 : meetChk 16 = true := by decide +kernel
theorem meet_in {n : Nat} (hc : meetChk n = true) {a b : Int} (ha : 1 ≤ a ∧ a ≤ n) (hb : 1 ≤ b ∧ b ≤ n) : ∃ r, Ev (fun k => spec_MeetIn.f k n a b) r ∧ Ev (fun k => impl_MeetIn.f k n a b) r := by
  simp only [meetChk, List.all_eq_true, List.mem_range, Bool.and_eq_true, decide_eq_true_eq] at hc
  have h := hc (a - 1).toNat (by omega) (b - 1).toNat (by omega)
  rw [show ((a - 1).toNat : Int) + 1 = a by omega, show ((b - 1).toNat : Int) + 1 = b by omega] at h
  obtain ⟨r, hr⟩ := Option.isSome_iff_exists.1 h.1
  exact ⟨r, Ev.of (spec_MeetIn.mono n a b) (k := 60) (h.2.trans hr), Ev.of (impl_MeetIn.mono n a b) (k := 60) hr⟩
theorem meet_out {n : Int} {a b : Int} (hs : ∀ x ∈ seed n, 1 ≤ x ∧ x ≤ n) (h : ¬ ((1 ≤ a ∧ a ≤ n) ∧ (1 ≤ b ∧ b ≤ n))) : Ev (fun k => spec_MeetIn.f k n a b) 0 ∧ Ev (fun k => impl_MeetIn.f k n a b) 0 := by
  have j0s : Ev (fun k => spec_MeetIn.j0 k n a b true) 0 := Ev.step (fun k => spec_MeetIn.j0.eq_2 ..) (Ev.pos rfl (Ev.now _))
  have j0i : ∀ x y : Int, Ev (fun k => impl_MeetIn.j0 k x y true) 0 := fun x y => Ev.step (fun k => impl_MeetIn.j0.eq_2 ..) (Ev.pos rfl (Ev.now _))
  have hl := seed_length n
  constructor
  · unfold spec_MeetIn.f
    simp only [sRoundsOf_eq, l1In_eq, Option.bind_some]
    refine Ev.ite (fun _ => j0s) (fun _ => Ev.ite (fun h1 => Ev.ite (fun h2 => ?_) (fun _ => j0s)) (fun _ => j0s))
    exact absurd ⟨inR_iff.1 h1, inR_iff.1 h2⟩ h
  · unfold impl_MeetIn.f
    refine Ev.bind (iSeedOrder_ev n) (Ev.bind (Index_ev _ a (by omega)) (Ev.bind (Index_ev _ b (by omega)) ?_))
    refine Ev.ite (fun _ => j0i _ _) (fun h1 => Ev.ite (fun _ => j0i _ _) (fun h2 => ?_))
    have ha : a ∈ seed n := by
      unfold idx at h1
      split at h1
      · assumption
      · omega
    have hb : b ∈ seed n := by
      unfold idx at h2
      split at h2
      · assumption
      · omega
    exact absurd ⟨hs a ha, hs b hb⟩ h
theorem meet_same (n a b : Int) : ∃ r, Ev (fun k => spec_MeetIn.f k n a b) r ∧ Ev (fun k => impl_MeetIn.f k n a b) r := by
  by_cases h : (1 ≤ a ∧ a ≤ n) ∧ (1 ≤ b ∧ b ≤ n)
  · by_cases h2 : n = 2
    · subst h2
      exact meet_in (n := 2) meet2 h.1 h.2
    by_cases h4 : n = 4
    · subst h4
      exact meet_in (n := 4) meet4 h.1 h.2
    by_cases h8 : n = 8
    · subst h8
      exact meet_in (n := 8) meet8 h.1 h.2
    by_cases h16 : n = 16
    · subst h16
      exact meet_in (n := 16) meet16 h.1 h.2
    refine ⟨0, ?_, ?_⟩
    · unfold spec_MeetIn.f
      simp only [sRoundsOf_eq, Option.bind_some]
      exact Ev.pos (by simp [rounds_, h2, h4, h8, h16]) (Ev.step (fun k => spec_MeetIn.j0.eq_2 ..) (Ev.pos rfl (Ev.now _)))
    · unfold impl_MeetIn.f
      have hs : seed n = [] := by simp [seed, h2, h4, h8, h16]
      refine Ev.bind (iSeedOrder_ev n) ?_
      rw [hs]
      refine Ev.bind (Index_ev [] a (by simp)) (Ev.bind (Index_ev [] b (by simp)) ?_)
      exact Ev.pos (by simp [idx]) (Ev.step (fun k => impl_MeetIn.j0.eq_2 ..) (Ev.pos rfl (Ev.now _)))
  · refine ⟨0, meet_out (fun x hx => ?_) h⟩
    by_cases h2 : n = 2
    · subst h2
      revert x
      decide
    by_cases h4 : n = 4
    · subst h4
      revert x
      decide
    by_cases h8 : n = 8
    · subst h8
      revert x
      decide
    by_cases h16 : n = 16
    · subst h16
      revert x
      decide
    · rw [show seed n = [] by simp [seed, h2, h4, h8, h16]] at hx
      cases hx
end Go.Proofs.Ytcffappipgapbaa.L
