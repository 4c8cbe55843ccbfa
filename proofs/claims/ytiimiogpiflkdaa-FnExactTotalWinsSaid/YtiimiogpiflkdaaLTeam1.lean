/- Teams: weighing, copying, comparing, finding: what the printed functions come to, for every list of at most 2^40 teams who met at most 2^40 times. -/
import Derived.Test.YtiimiogpiflkdaaLInt
import Derived.Test.YtiimiogpiflkdaaA1
import Derived.Test.YtiimiogpiflkdaaA2
import Derived.Test.YtiimiogpiflkdaaA3
import Derived.Test.YtiimiogpiflkdaaA6
import Derived.Test.YtiimiogpiflkdaaA7
import Derived.Test.YtiimiogpiflkdaaA11
import Derived.Test.YtiimiogpiflkdaaA12
set_option linter.unusedVariables false
set_option linter.unusedSimpArgs false
namespace Go.Proofs.Ytiimiogpiflkdaa.L
open Go Go.RowKit Go.Proofs.Ytiimiogpiflkdaa.A Go.Proofs.YtiimiogpiflkdaaW.PrintWords

abbrev Tm := S61
theorem rdTm {l : List Tm} {n : Nat} (h : n < l.length) : rd_T61 l (n : Int) = l[n] := by
  simp [rd_T61, h]
theorem rdLTm {l : List S64} {n : Nat} (h : n < l.length) : rd_T64 l (n : Int) = l[n] := by
  simp [rd_T64, h]
def cvTm (x : S64) : Tm := ⟨x.f0, x.f1, x.f2, x.f3, x.f4, x.f5⟩
/-- Lists of teams of a size that any machine holds. -/
def Small (l : List Tm) : Prop := l.length ≤ 1099511627776 ∧ ∀ x ∈ l, x.f5.length ≤ 1099511627776
theorem szInt_eq (l : List Int) (left : Int) (h0 : 0 ≤ left) (h1 : left ≤ 1048576) (hl : l.length ≤ 9223372036854775807) : laws_szIntS.f l left = some (if left - l.length < 0 then -1 else left - l.length) := by
  unfold laws_szIntS.f
  rw [w64 (by omega) (by omega)]
  split <;> rfl
theorem szTeamS_l0 (l : List S64) (hl : l.length ≤ 1048576) (hi : ∀ x ∈ l, x.f5.length ≤ 9223372036854775807) : ∀ (d n : Nat) (left : Int), n + d = l.length → 0 ≤ left → left ≤ 1048576 → (∀ (i : Nat) (h : i < n) (h' : i < l.length), (l[i]).f5.length ≤ 1048576) → ∃ v, Ev (fun k => laws_szTeamS.l0 k l left (n : Int)) v ∧ v ≤ 1048576 ∧ (0 ≤ v → ∀ x ∈ l, x.f5.length ≤ 1048576) := by
  intro d
  induction d with
  | zero =>
    intro n left hd h0 h1 hp
    refine ⟨left, Ev.step (fun k => laws_szTeamS.l0.eq_2 ..) (Ev.neg (by omega) (Ev.now _)), h1, fun _ x hx => ?_⟩
    obtain ⟨j, hj, rfl⟩ := List.mem_iff_getElem.1 hx
    exact hp j (by omega) hj
  | succ d ih =>
    intro n left hd h0 h1 hp
    have hn : n < l.length := by omega
    have hs := szInt_eq (l[n]).f5 left h0 h1 (hi _ (List.getElem_mem _))
    by_cases hb : left - (l[n]).f5.length < 0
    · rw [if_pos hb] at hs
      have hs2 : laws_szTeam.f (l[n]).f0 (l[n]).f1 (l[n]).f2 (l[n]).f3 (l[n]).f4 (l[n]).f5 left = some (-1) := by
        unfold laws_szTeam.f
        rw [hs]
        rfl
      refine ⟨-1, Ev.step (fun k => laws_szTeamS.l0.eq_2 ..) (Ev.pos (by omega) (Ev.pos (by omega) ?_)), by omega, fun h => by omega⟩
      simp only [rdLTm hn]
      exact Ev.bnd hs2 (Ev.pos (by omega) (Ev.now _))
    · rw [if_neg hb] at hs
      have hs2 : laws_szTeam.f (l[n]).f0 (l[n]).f1 (l[n]).f2 (l[n]).f3 (l[n]).f4 (l[n]).f5 left = some (left - (l[n]).f5.length) := by
        unfold laws_szTeam.f
        rw [hs]
        simp only [Option.bind_some]
        rw [if_neg hb]
      obtain ⟨v, hv, hv1, hv2⟩ := ih (n + 1) (left - (l[n]).f5.length) (by omega) (by omega) (by omega) (fun i h h' => by
        by_cases e : i = n
        · subst e
          omega
        · exact hp i (by omega) h')
      refine ⟨v, Ev.step (fun k => laws_szTeamS.l0.eq_2 ..) (Ev.pos (by omega) (Ev.pos (by omega) ?_)), hv1, hv2⟩
      simp only [rdLTm hn, w64s (show n < 4611686018427387904 by omega)]
      exact Ev.bnd hs2 (Ev.neg (by omega) hv)
theorem szTeamS_ev (l : List S64) (hl : l.length ≤ 9223372036854775807) (hi : ∀ x ∈ l, x.f5.length ≤ 9223372036854775807) : ∃ v, Ev (fun k => laws_szTeamS.f k l 1048576) v ∧ v ≤ 1048576 ∧ (¬ v < 0 → l.length ≤ 1048576 ∧ ∀ x ∈ l, x.f5.length ≤ 1048576) := by
  unfold laws_szTeamS.f
  rw [w64 (by omega) (by omega)]
  by_cases hb : 1048576 - (l.length : Int) < 0
  · exact ⟨-1, Ev.pos hb (Ev.now _), by omega, fun h => by omega⟩
  · obtain ⟨v, hv, hv1, hv2⟩ := szTeamS_l0 l (by omega) hi l.length 0 (1048576 - l.length) (by omega) (by omega) (by omega) (fun i h => by omega)
    exact ⟨v, Ev.neg hb hv, hv1, fun h => ⟨by omega, hv2 (by omega)⟩⟩
theorem toTeam_ev (x : S64) (h : x.f5.length ≤ 1099511627776) : Ev (fun k => laws_toTeam.f k x.f0 x.f1 x.f2 x.f3 x.f4 x.f5) (x.f0, x.f1, x.f2, x.f3, x.f4, x.f5) := by
  unfold laws_toTeam.f
  exact Ev.bind (toIntS_ev x.f5 h) (Ev.now _)
theorem toTeamS_l0 (l : List S64) (hl : l.length ≤ 1099511627776) (hi : ∀ x ∈ l, x.f5.length ≤ 1099511627776) : ∀ (d n : Nat) (xs : List Tm), n + d = l.length → xs.length = l.length → xs.take n = (l.map cvTm).take n → Ev (fun k => laws_toTeamS.l0 k l xs (n : Int)) (l.map cvTm) := by
  intro d
  induction d with
  | zero =>
    intro n xs hd hx ht
    refine Ev.step (fun k => laws_toTeamS.l0.eq_2 ..) ?_
    refine Ev.neg (by omega) (Ev.some_ ?_)
    rw [List.take_of_length_le (by omega), List.take_of_length_le (by simp; omega)] at ht
    exact ht
  | succ d ih =>
    intro n xs hd hx ht
    refine Ev.step (fun k => laws_toTeamS.l0.eq_2 ..) ?_
    refine Ev.pos (by omega) (Ev.pos (by omega) ?_)
    simp only [w64s (show n < 4611686018427387904 by omega), rdLTm (show n < l.length by omega), Int.toNat_natCast]
    refine Ev.bind (toTeam_ev l[n] (hi _ (List.getElem_mem _))) (Ev.pos (by omega) ?_)
    refine ih (n + 1) _ (by omega) (by simp [hx]) ?_
    rw [List.take_succ_eq_append_getElem (by simp; omega), List.take_succ_eq_append_getElem (by simp; omega), List.take_set_of_le (by omega), ht]
    simp [cvTm]
theorem toTeamS_ev (l : List S64) (hl : l.length ≤ 1099511627776) (hi : ∀ x ∈ l, x.f5.length ≤ 1099511627776) : Ev (fun k => laws_toTeamS.f k l) (l.map cvTm) := by
  unfold laws_toTeamS.f
  refine Ev.pos (by omega) (Ev.pos (by simp; omega) ?_)
  exact toTeamS_l0 l hl hi l.length 0 _ (by omega) (by simp) (by simp)
theorem small_map (l : List S64) (hl : l.length ≤ 1099511627776) (hi : ∀ x ∈ l, x.f5.length ≤ 1099511627776) : Small (l.map cvTm) := by
  refine ⟨by simpa using hl, fun x hx => ?_⟩
  obtain ⟨y, hy, rfl⟩ := List.mem_map.1 hx
  exact hi y hy
theorem eqTeam_ev (x : Tm) (h : x.f5.length ≤ 1099511627776) : Ev (fun k => laws_eqTeam.f k x.f0 x.f1 x.f2 x.f3 x.f4 x.f5 x.f0 x.f1 x.f2 x.f3 x.f4 x.f5) true := by
  unfold laws_eqTeam.f
  exact Ev.pos rfl (Ev.pos rfl (Ev.pos rfl (Ev.pos rfl (Ev.pos rfl (Ev.bind (eqIntS_ev _ _ h) (Ev.pos (by simp) (Ev.now _)))))))
theorem eqTeamS_l0 (l : List Tm) (hs : Small l) : ∀ (d n : Nat), n + d = l.length → Ev (fun k => laws_eqTeamS.l0 k l l (n : Int)) true := by
  have hl := hs.1
  intro d
  induction d with
  | zero =>
    intro n hd
    refine Ev.step (fun k => laws_eqTeamS.l0.eq_2 ..) ?_
    exact Ev.neg (by omega) (Ev.now _)
  | succ d ih =>
    intro n hd
    refine Ev.step (fun k => laws_eqTeamS.l0.eq_2 ..) ?_
    refine Ev.pos (by omega) (Ev.pos (by omega) (Ev.pos (by omega) ?_))
    simp only [w64s (show n < 4611686018427387904 by omega), rdTm (show n < l.length by omega)]
    exact Ev.bind (eqTeam_ev l[n] (hs.2 _ (List.getElem_mem _))) (Ev.pos rfl (ih (n + 1) (by omega)))
theorem eqTeamS_ev (l : List Tm) (hs : Small l) : Ev (fun k => laws_eqTeamS.f k l l) true := by
  unfold laws_eqTeamS.f
  exact Ev.pos rfl (eqTeamS_l0 l hs l.length 0 (by omega))
end Go.Proofs.Ytiimiogpiflkdaa.L
