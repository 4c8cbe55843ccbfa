/- FnExactSeatJudges: for every input the law returns true, and each argument reads as it read. No condition. -/
import Derived.Test.YtdlebbmmanjffaaRows
import Derived.Test.YtdlebbmmanjffaaSFnExactSeatJudgesx4
import Derived.Test.YtdlebbmmanjffaaSFnExactSeatJudgesx5
import Derived.WalkKit
import Derived.ProofKit
import Derived.OpenShut
import Derived.ChangeOld
import Derived.Below
import Derived.SizedLaws
namespace Go.Proofs.Ytdlebbmmanjffaa.fnExactSeatJudges
open Go.ChangeShapes Go.WideShapes Go.ChangeAt Go.RowKit Go.Proofs.Ytdlebbmmanjffaa.Open Go.Proofs.Ytdlebbmmanjffaa.A Go.Proofs.YtdlebbmmanjffaaW.PrintWords
set_option linter.unusedVariables false
theorem own : ownKnob Try.prog.godebug = none := by kernel_rfl
theorem laidOut : laidOutB Try.prog = true := by kernel_rfl
theorem opn86 : Opn Try.prog 86 k86 := opn_iso (opn_struct Try.underlying86 (by kernel_rfl) (by kernel_rfl) (opnL_cons (opn_int Try.underlying3) (opnL_cons (opn_int Try.underlying3) (opnL_cons (opn_int Try.underlying3) (opnL_cons (opn_int Try.underlying3) (opnL_cons (opn_int Try.underlying3) (opnL_one (opn_slice Try.underlying29 (by kernel_rfl) (opn_int Try.underlying3))))))))) (fun a => ⟨⟨a.1, a.2.1, a.2.2.1, a.2.2.2.1, a.2.2.2.2.1, a.2.2.2.2.2⟩, rfl⟩)
theorem opn38 : Opn Try.prog 38 k38 := opn_iso (opn_struct Try.underlying38 (by kernel_rfl) (by kernel_rfl) (opnL_cons (opn_int Try.underlying3) (opnL_cons (opn_int Try.underlying3) (opnL_one (opn_slice Try.underlying29 (by kernel_rfl) (opn_int Try.underlying3)))))) (fun a => ⟨⟨a.1, a.2.1, a.2.2⟩, rfl⟩)
theorem opn40 : Opn Try.prog 40 k40 := opn_iso (opn_struct Try.underlying40 (by kernel_rfl) (by kernel_rfl) (opnL_cons (opn_int Try.underlying3) (opnL_one (opn_int Try.underlying3)))) (fun a => ⟨⟨a.1, a.2⟩, rfl⟩)
set_option maxRecDepth 100000 in
theorem lifted (os : Os) (started : os.Started) (H : Type) (enc : TypeId × Value → H) :
    ReturnsInHanded {} Try.checked os 7 .any (Rows.fnExactSeatJudgesSpec.pre6 enc Try.prog Try.f7 Rows.fnExactSeatJudgesRow.domain false) (Rows.fnExactSeatJudgesSpec.post enc Try.prog Try.f7 false true false false) := by
  refine returnsInHanded_of_change_sized (C := Try.checked) own started (by kernel_rfl) Try.func7
    (ChangeSpec.witness6 (enc := enc) (C := Try.checked) false ⟨#[], #[.slice none 0 0, .slice none 0 0, .slice none 0 0], []⟩ 8 (by kernel_rfl) (by kernel_rfl) (by kernel_rfl) (by kernel_rfl)) ?_
  intro W base args ds gs before hval0 hW hcnd hsz0 _
  have hval : ∀ (j : Nat) t v, Try.f7.params[j]? = some t → args[j]? = some v → Value.okWide Try.prog W .any base t v := hval0
  have hW' := hW
  obtain ⟨p, q, hA0, hV, rfl, hfz, hnd⟩ := hW
  have hA : DataW.TrodAll enc Try.prog W 0 (fun _ => true) true Try.f7.params.toList args.toList ds p := hA0
  rw [Try.params7] at hA hval
  obtain ⟨v0, vs0, d0, ds0, p0, q0, hargs, rfl, rfl, h0, r0⟩ := trodAll_cons hA
  obtain ⟨v1, vs1, d1, ds1, p1, q1, rfl, rfl, rfl, h1, r1⟩ := trodAll_cons r0
  obtain ⟨v2, vs2, d2, ds2, p2, q2, rfl, rfl, rfl, h2, r2⟩ := trodAll_cons r1
  obtain ⟨rfl, rfl, rfl⟩ := trodAll_nil r2
  obtain rfl : args = #[v0, v1, v2] := by cases args; simp_all
  obtain ⟨rfl, rfl⟩ := trodVars_none hV
  obtain ⟨a0, len0, cap0, rfl⟩ := okWide_slice Try.underlying36 (hval 0 36 v0 rfl rfl)
  have g0 := h0
  have lt0 : ∀ x ∈ p0, x.block < W.heap.size := by obtain ⟨m, hm⟩ := g0; exact DataW.trod_lt m _ _ _ hm
  obtain ⟨l0, e0, hc0, hr0⟩ := opened (d := k86) (opn_slice Try.underlying36 (by kernel_rfl) opn86) h0
  subst e0
  obtain ⟨a1, len1, cap1, rfl⟩ := okWide_slice Try.underlying22 (hval 1 22 v1 rfl rfl)
  have g1 := h1
  have lt1 : ∀ x ∈ p1, x.block < W.heap.size := by obtain ⟨m, hm⟩ := g1; exact DataW.trod_lt m _ _ _ hm
  obtain ⟨l1, e1, hc1, hr1⟩ := opened (d := k38) (opn_slice Try.underlying22 (by kernel_rfl) opn38) h1
  subst e1
  obtain ⟨a2, len2, cap2, rfl⟩ := okWide_slice Try.underlying53 (hval 2 53 v2 rfl rfl)
  have g2 := h2
  have lt2 : ∀ x ∈ p2, x.block < W.heap.size := by obtain ⟨m, hm⟩ := g2; exact DataW.trod_lt m _ _ _ hm
  obtain ⟨l2, e2, hc2, hr2⟩ := opened (d := k40) (opn_slice Try.underlying53 (by kernel_rfl) opn40) h2
  subst e2
  clear hA0 hval0 hsz0
  obtain ⟨k, hk⟩ := L.FnExactSeatJudges_pure l0 l1 l2 hr0.2.1 (fun x hx => by obtain ⟨c, hk⟩ := C_mem hr0 x hx; obtain ⟨_, _, _, _, ⟨_, _, _, _, ⟨_, _, _, _, ⟨_, _, _, _, ⟨_, _, _, _, ⟨_, _, _, _, hz⟩⟩⟩⟩⟩⟩ := hk; exact hz.2.1) hr1.2.1 (fun x hx => by obtain ⟨c, hk⟩ := C_mem hr1 x hx; obtain ⟨_, _, _, _, ⟨_, _, _, _, ⟨_, _, _, _, hz⟩⟩⟩ := hk; exact hz.2.1) hr2.2.1
  refine (laws_FnExactSeatJudges.calls k a0 cap0 l0 a1 cap1 l1 a2 cap2 l2 true W hr0 hc0 hr1 hc1 hr2 hc2 hk).mono ?_
  rintro e W' ⟨he, bel0⟩
  have bel := bel0
  subst he
  exact ⟨_, rfl, _, _, _, [], _, [], hW', trodAll_mk1 (shut_bool Try.underlying4 _), (trodAll_cons_mk (Below.trod laidOut (by kernel_rfl) (of_decide_eq_true (by kernel_rfl)) g0 bel lt0) (trodAll_cons_mk (Below.trod laidOut (by kernel_rfl) (of_decide_eq_true (by kernel_rfl)) g1 bel lt1) (trodAll_cons_mk (Below.trod laidOut (by kernel_rfl) (of_decide_eq_true (by kernel_rfl)) g2 bel lt2) trodAll_mk0))), rfl, bel.frame _, fun h => by cases h⟩
theorem over : Rows.fnExactSeatJudgesRow.holds Try.pinned (OpenSpec.ofChange Rows.fnExactSeatJudgesSpec) :=
  OpenClaim.holds_of_wide 7 Try.f7 rfl rfl rfl rfl rfl rfl rfl ⟨rfl, rfl, rfl, rfl, rfl⟩ rfl rfl rfl rfl rfl (by kernel_rfl) Try.func7 (by kernel_rfl)
    (of_decide_eq_true (by kernel_rfl)) (by unfold Func.isWrapper; first | (rw [if_pos (by decide +kernel)]; kernel_rfl) | (rw [if_neg (by decide +kernel)]; exact ⟨rfl, rfl⟩))
    (fun os started H enc _ => lifted os started H enc)
theorem proved : Rows.FnExactSeatJudgesSaid := over
#print axioms proved
end Go.Proofs.Ytdlebbmmanjffaa.fnExactSeatJudges
namespace Go.Proofs.Ytdlebbmmanjffaa
theorem fnExactSeatJudges_holds : Rows.FnExactSeatJudgesSaid := fnExactSeatJudges.proved
end Go.Proofs.Ytdlebbmmanjffaa
