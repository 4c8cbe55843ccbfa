/- Teams: finding one, having met: what the printed functions come to. -/
import Derived.Test.YtiimiogpiflkdaaLTeam1
import Derived.Test.YtiimiogpiflkdaaA4
import Derived.Test.YtiimiogpiflkdaaA9
set_option linter.unusedVariables false
set_option linter.unusedSimpArgs false
namespace Go.Proofs.Ytiimiogpiflkdaa.L
open Go Go.RowKit Go.Proofs.Ytiimiogpiflkdaa.A Go.Proofs.YtiimiogpiflkdaaW.PrintWords

def findT (l : List Tm) (id : Int) : Int := fidx (fun t => decide (t.f0 = id)) l
theorem iFindTeam_eq (l : List Tm) (id : Int) : impl_FindTeam.f l id = some (findT l id) := rfl
theorem fidx_cons {α : Type} (p : α → Bool) (x : α) (l : List α) : fidx p (x :: l) = if p x = true then 0 else if fidx p l < 0 then -1 else fidx p l + 1 := by
  unfold fidx
  rw [List.findIdx?_cons]
  by_cases h : p x = true
  · simp [h]
  · rw [if_neg h, if_neg h]
    cases l.findIdx? p with
    | none => simp
    | some i =>
      simp only [Option.map_some]
      rw [if_neg (by omega)]
      omega
theorem fidx_nil {α : Type} (p : α → Bool) : fidx p ([] : List α) = -1 := rfl
theorem fidx_range {α : Type} (p : α → Bool) : ∀ l : List α, -1 ≤ fidx p l ∧ fidx p l < l.length
  | [] => by simp [fidx_nil]
  | x :: l => by
    have := fidx_range p l
    rw [fidx_cons]
    simp only [List.length_cons]
    split
    · omega
    · split <;> omega
theorem fidx_at {α : Type} (p : α → Bool) (l : List α) (h : 0 ≤ fidx p l) : ∃ (hl : (fidx p l).toNat < l.length), p (l[(fidx p l).toNat]) = true := by
  unfold fidx at h ⊢
  cases e : l.findIdx? p with
  | none => rw [e] at h; simp at h
  | some i =>
    rw [List.findIdx?_eq_some_iff_getElem] at e
    obtain ⟨hi, hp, _⟩ := e
    exact ⟨by simpa using hi, by simpa using hp⟩
theorem fidx_neg {α : Type} (p : α → Bool) (l : List α) (h : fidx p l < 0) : ∀ x ∈ l, p x = false := by
  unfold fidx at h
  cases e : l.findIdx? p with
  | none =>
    rw [List.findIdx?_eq_none_iff] at e
    exact e
  | some i => rw [e] at h; simp at h; omega
theorem sFindTeam_l0 (l : List Tm) (id : Int) (hl : l.length ≤ 1099511627776) : ∀ (d n : Nat), n + d = l.length → Ev (fun k => spec_FindTeam.l0 k l id (n : Int)) (if findT (l.drop n) id < 0 then -1 else n + findT (l.drop n) id) := by
  intro d
  induction d with
  | zero =>
    intro n hd
    refine Ev.step (fun k => spec_FindTeam.l0.eq_2 ..) ?_
    refine Ev.neg (by omega) (Ev.some_ ?_)
    rw [List.drop_eq_nil_of_le (by omega)]
    simp [findT, fidx_nil]
  | succ d ih =>
    intro n hd
    refine Ev.step (fun k => spec_FindTeam.l0.eq_2 ..) ?_
    refine Ev.pos (by omega) (Ev.pos (by omega) ?_)
    simp only [w64s (show n < 4611686018427387904 by omega), rdTm (show n < l.length by omega)]
    have h1 := ih (n + 1) (by omega)
    rw [List.drop_eq_getElem_cons (show n < l.length by omega)]
    generalize l.drop (n + 1) = u at h1 ⊢
    have hr := fidx_range (fun t : Tm => decide (t.f0 = id)) u
    refine Ev.ite (fun h => Ev.some_ ?_) (fun h => Ev.cast h1 ?_)
    · simp [findT, fidx_cons, h]
    · have e : findT (l[n] :: u) id = if findT u id < 0 then -1 else findT u id + 1 := by
        unfold findT
        rw [fidx_cons, if_neg (by simpa using h)]
      rw [e]
      have hr' : -1 ≤ findT u id := hr.1
      by_cases hu : findT u id < 0
      · simp [hu]
      · have h2 : ¬ findT u id + 1 < 0 := by omega
        rw [if_neg hu, if_neg hu, if_neg h2]
        omega
theorem sFindTeam_ev (l : List Tm) (id : Int) (hl : l.length ≤ 1099511627776) : Ev (fun k => spec_FindTeam.f k l id) (findT l id) := by
  unfold spec_FindTeam.f
  refine Ev.cast (sFindTeam_l0 l id hl l.length 0 (by omega)) ?_
  have hr := fidx_range (fun t : Tm => decide (t.f0 = id)) l
  simp only [List.drop_zero]
  split
  · unfold findT at *
    omega
  · omega
theorem findT_range (l : List Tm) (id : Int) : -1 ≤ findT l id ∧ findT l id < l.length := fidx_range _ l
/-- The team found. -/
theorem rdTm_int {l : List Tm} {i : Int} (h0 : 0 ≤ i) (h1 : i < l.length) : ∃ h : i.toNat < l.length, rd_T61 l i = l[i.toNat] := by
  refine ⟨by omega, ?_⟩
  obtain ⟨m, rfl⟩ : ∃ m : Nat, i = m := ⟨i.toNat, by omega⟩
  rw [rdTm (by omega)]
  simp
theorem rdTm_mem {l : List Tm} {i : Int} (h0 : 0 ≤ i) (h1 : i < l.length) : rd_T61 l i ∈ l := by
  obtain ⟨h, e⟩ := rdTm_int h0 h1
  rw [e]
  exact List.getElem_mem _
end Go.Proofs.Ytiimiogpiflkdaa.L
