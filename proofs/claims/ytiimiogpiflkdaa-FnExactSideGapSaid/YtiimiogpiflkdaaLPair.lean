/- Pairs: what the printed functions come to. -/
import Derived.Test.YtiimiogpiflkdaaLBase
import Derived.Test.YtiimiogpiflkdaaA37
import Derived.Test.YtiimiogpiflkdaaA40
import Derived.Test.YtiimiogpiflkdaaA33
set_option linter.unusedVariables false
set_option linter.unusedSimpArgs false
namespace Go.Proofs.Ytiimiogpiflkdaa.L
open Go Go.RowKit Go.Proofs.Ytiimiogpiflkdaa.A Go.Proofs.YtiimiogpiflkdaaW.PrintWords

theorem rdLPair {l : List S73} {n : Nat} (h : n < l.length) : rd_T73 l (n : Int) = l[n] := by
  simp [rd_T73, h]
theorem rdPair {l : List S46} {n : Nat} (h : n < l.length) : rd_T46 l (n : Int) = l[n] := by
  simp [rd_T46, h]
def cvPair (x : S73) : S46 := ⟨x.f0, x.f1⟩
theorem toPairS_l0 (l : List S73) (hl : l.length ≤ 1099511627776) : ∀ (d n : Nat) (xs : List S46), n + d = l.length → xs.length = l.length → xs.take n = (l.map cvPair).take n → Ev (fun k => laws_toPairS.l0 k l xs (n : Int)) (l.map cvPair) := by
  intro d
  induction d with
  | zero =>
    intro n xs hd hx ht
    refine Ev.step (fun k => laws_toPairS.l0.eq_2 ..) ?_
    refine Ev.neg (by omega) (Ev.some_ ?_)
    rw [List.take_of_length_le (by omega), List.take_of_length_le (by simp; omega)] at ht
    exact ht
  | succ d ih =>
    intro n xs hd hx ht
    refine Ev.step (fun k => laws_toPairS.l0.eq_2 ..) ?_
    refine Ev.pos (by omega) (Ev.pos (by omega) ?_)
    simp only [laws_toPair.f, Option.bind_some]
    refine Ev.pos (by omega) ?_
    simp only [w64s (show n < 4611686018427387904 by omega), rdLPair (show n < l.length by omega), Int.toNat_natCast]
    refine ih (n + 1) _ (by omega) (by simp [hx]) ?_
    rw [List.take_succ_eq_append_getElem (by simp; omega), List.take_succ_eq_append_getElem (by simp; omega), List.take_set_of_le (by omega), ht]
    simp [cvPair]
theorem toPairS_ev (l : List S73) (hl : l.length ≤ 1099511627776) : Ev (fun k => laws_toPairS.f k l) (l.map cvPair) := by
  unfold laws_toPairS.f
  refine Ev.pos (by omega) (Ev.pos (by simp; omega) ?_)
  exact toPairS_l0 l hl l.length 0 _ (by omega) (by simp) (by simp)
theorem eqPair_same (x : S46) : laws_eqPair.f x.f0 x.f1 x.f0 x.f1 = some true := by simp [laws_eqPair.f]
theorem eqPairS_l0 (l : List S46) (hl : l.length ≤ 1099511627776) : ∀ (d n : Nat), n + d = l.length → Ev (fun k => laws_eqPairS.l0 k l l (n : Int)) true := by
  intro d
  induction d with
  | zero =>
    intro n hd
    refine Ev.step (fun k => laws_eqPairS.l0.eq_2 ..) ?_
    exact Ev.neg (by omega) (Ev.now _)
  | succ d ih =>
    intro n hd
    refine Ev.step (fun k => laws_eqPairS.l0.eq_2 ..) ?_
    refine Ev.pos (by omega) (Ev.pos (by omega) (Ev.pos (by omega) ?_))
    simp only [w64s (show n < 4611686018427387904 by omega), rdPair (show n < l.length by omega), eqPair_same, Option.bind_some]
    exact Ev.pos trivial (ih (n + 1) (by omega))
theorem eqPairS_ev (l : List S46) (hl : l.length ≤ 1099511627776) : Ev (fun k => laws_eqPairS.f k l l) true := by
  unfold laws_eqPairS.f
  exact Ev.pos rfl (eqPairS_l0 l hl l.length 0 (by omega))
theorem szPairS_eq (l : List S73) (left : Int) (h0 : 0 ≤ left) (h1 : left ≤ 1048576) (hl : l.length ≤ 9223372036854775807) : laws_szPairS.f l left = some (if left - l.length < 0 then -1 else left - l.length) := by
  unfold laws_szPairS.f
  rw [w64 (by omega) (by omega)]
  split <;> rfl
end Go.Proofs.Ytiimiogpiflkdaa.L
