/- Copying, comparing and weighing slices of slices of whole numbers: for every list of at most 2^40 lists of at most 2^40 numbers. -/
import Derived.Test.YtcffappipgapbaaLInt
import Derived.Test.YtcffappipgapbaaA6
import Derived.Test.YtcffappipgapbaaA10
import Derived.Test.YtcffappipgapbaaA2
import Derived.Test.YtcffappipgapbaaA1
set_option linter.unusedVariables false
set_option linter.unusedSimpArgs false
namespace Go.Proofs.Ytcffappipgapbaa.L
open Go Go.RowKit Go.Proofs.Ytcffappipgapbaa.A Go.Proofs.YtcffappipgapbaaW.PrintWords

theorem rdL1_at {l : List (List Int)} {n : Nat} (h : n < l.length) : rd_L1 l (n : Int) = l[n] := by
  simp [rd_L1, h]
theorem toIntSS_l0 (l : List (List Int)) (hl : l.length ≤ 1099511627776) (hi : ∀ x ∈ l, x.length ≤ 1099511627776) : ∀ (d n : Nat) (xs : List (List Int)), n + d = l.length → xs.length = l.length → xs.take n = l.take n → Ev (fun k => laws_toIntSS.l0 k l xs (n : Int)) l := by
  intro d
  induction d with
  | zero =>
    intro n xs hd hx ht
    refine Ev.step (fun k => laws_toIntSS.l0.eq_2 ..) ?_
    refine Ev.neg (by omega) (Ev.some_ ?_)
    rw [List.take_of_length_le (by omega), List.take_of_length_le (by omega)] at ht
    exact ht
  | succ d ih =>
    intro n xs hd hx ht
    refine Ev.step (fun k => laws_toIntSS.l0.eq_2 ..) ?_
    refine Ev.pos (by omega) (Ev.pos (by omega) ?_)
    simp only [w64s (show n < 4611686018427387904 by omega), rdL1_at (show n < l.length by omega), Int.toNat_natCast]
    refine Ev.bind (toIntS_ev l[n] (hi _ (List.getElem_mem _))) (Ev.pos (by omega) ?_)
    refine ih (n + 1) _ (by omega) (by simp [hx]) ?_
    rw [List.take_succ_eq_append_getElem (by simp; omega), List.take_succ_eq_append_getElem (by omega), List.take_set_of_le (by omega), ht]
    simp
theorem toIntSS_ev (l : List (List Int)) (hl : l.length ≤ 1099511627776) (hi : ∀ x ∈ l, x.length ≤ 1099511627776) : Ev (fun k => laws_toIntSS.f k l) l := by
  unfold laws_toIntSS.f
  refine Ev.pos (by omega) (Ev.pos (by simp; omega) ?_)
  exact toIntSS_l0 l hl hi l.length 0 _ (by omega) (by simp) (by simp)
theorem eqIntSS_l0 (l : List (List Int)) (hl : l.length ≤ 1099511627776) (hi : ∀ x ∈ l, x.length ≤ 1099511627776) : ∀ (d n : Nat), n + d = l.length → Ev (fun k => laws_eqIntSS.l0 k l l (n : Int)) true := by
  intro d
  induction d with
  | zero =>
    intro n hd
    refine Ev.step (fun k => laws_eqIntSS.l0.eq_2 ..) ?_
    exact Ev.neg (by omega) (Ev.now _)
  | succ d ih =>
    intro n hd
    refine Ev.step (fun k => laws_eqIntSS.l0.eq_2 ..) ?_
    refine Ev.pos (by omega) (Ev.pos (by omega) (Ev.pos (by omega) ?_))
    simp only [w64s (show n < 4611686018427387904 by omega), rdL1_at (show n < l.length by omega)]
    exact Ev.bind (eqIntS_ev l[n] l[n] (hi _ (List.getElem_mem _))) (Ev.pos (by simp) (ih (n + 1) (by omega)))
theorem eqIntSS_ev (l : List (List Int)) (hl : l.length ≤ 1099511627776) (hi : ∀ x ∈ l, x.length ≤ 1099511627776) : Ev (fun k => laws_eqIntSS.f k l l) true := by
  unfold laws_eqIntSS.f
  exact Ev.pos rfl (eqIntSS_l0 l hl hi l.length 0 (by omega))
theorem szIntS_eq (l : List Int) (left : Int) (h0 : 0 ≤ left) (h1 : left ≤ 1048576) (hl : l.length ≤ 9223372036854775807) : laws_szIntS.f l left = some (if left - l.length < 0 then -1 else left - l.length) := by
  unfold laws_szIntS.f
  rw [w64 (by omega) (by omega)]
  split <;> rfl
theorem szIntSS_l0 (l : List (List Int)) (hl : l.length ≤ 1048576) (hi : ∀ x ∈ l, x.length ≤ 9223372036854775807) : ∀ (d n : Nat) (left : Int), n + d = l.length → 0 ≤ left → left ≤ 1048576 → (∀ (i : Nat) (h : i < n) (h' : i < l.length), (l[i]).length ≤ 1048576) → ∃ v, Ev (fun k => laws_szIntSS.l0 k l left (n : Int)) v ∧ (0 ≤ v → ∀ x ∈ l, x.length ≤ 1048576) := by
  intro d
  induction d with
  | zero =>
    intro n left hd h0 h1 hp
    refine ⟨left, Ev.step (fun k => laws_szIntSS.l0.eq_2 ..) (Ev.neg (by omega) (Ev.now _)), fun _ x hx => ?_⟩
    obtain ⟨j, hj, rfl⟩ := List.mem_iff_getElem.1 hx
    exact hp j (by omega) hj
  | succ d ih =>
    intro n left hd h0 h1 hp
    have hn : n < l.length := by omega
    have hs := szIntS_eq l[n] left h0 h1 (hi _ (List.getElem_mem _))
    by_cases hb : left - (l[n]).length < 0
    · rw [if_pos hb] at hs
      refine ⟨-1, Ev.step (fun k => laws_szIntSS.l0.eq_2 ..) (Ev.pos (by omega) (Ev.pos (by omega) ?_)), fun h => by omega⟩
      simp only [rdL1_at hn]
      exact Ev.bnd hs (Ev.pos (by omega) (Ev.now _))
    · rw [if_neg hb] at hs
      obtain ⟨v, hv, hv2⟩ := ih (n + 1) (left - (l[n]).length) (by omega) (by omega) (by omega) (fun i h h' => by
        by_cases e : i = n
        · subst e
          omega
        · exact hp i (by omega) h')
      refine ⟨v, Ev.step (fun k => laws_szIntSS.l0.eq_2 ..) (Ev.pos (by omega) (Ev.pos (by omega) ?_)), hv2⟩
      simp only [rdL1_at hn, w64s (show n < 4611686018427387904 by omega)]
      exact Ev.bnd hs (Ev.neg (by omega) hv)
/-- Weighed: what is let by is small. -/
theorem szIntSS_ev (l : List (List Int)) (hl : l.length ≤ 9223372036854775807) (hi : ∀ x ∈ l, x.length ≤ 9223372036854775807) : ∃ v, Ev (fun k => laws_szIntSS.f k l 1048576) v ∧ (¬ v < 0 → l.length ≤ 1048576 ∧ ∀ x ∈ l, x.length ≤ 1048576) := by
  unfold laws_szIntSS.f
  rw [w64 (by omega) (by omega)]
  by_cases hb : 1048576 - (l.length : Int) < 0
  · exact ⟨-1, Ev.pos hb (Ev.now _), fun h => by omega⟩
  · obtain ⟨v, hv, hv2⟩ := szIntSS_l0 l (by omega) hi l.length 0 (1048576 - l.length) (by omega) (by omega) (by omega) (fun i h => by omega)
    exact ⟨v, Ev.neg hb hv, fun h => ⟨by omega, hv2 (by omega)⟩⟩
end Go.Proofs.Ytcffappipgapbaa.L
