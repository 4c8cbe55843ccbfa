/- FnExactMayJudge: for every input the law returns true, and each argument reads as it read. No condition. -/
import Derived.Test.YtdlebbmmanjffaaRows
import Derived.Test.YtdlebbmmanjffaaSFnExactMayJudgex3
import Derived.Test.YtdlebbmmanjffaaSFnExactMayJudgex4
import Derived.WalkKit
import Derived.ProofKit
import Derived.OpenShut
import Derived.ChangeOld
import Derived.Below
import Derived.SizedLaws
namespace Go.Proofs.Ytdlebbmmanjffaa.fnExactMayJudge
open Go.ChangeShapes Go.WideShapes Go.ChangeAt Go.RowKit Go.Proofs.Ytdlebbmmanjffaa.Open Go.Proofs.Ytdlebbmmanjffaa.A Go.Proofs.YtdlebbmmanjffaaW.PrintWords
set_option linter.unusedVariables false
theorem own : ownKnob Try.prog.godebug = none := by kernel_rfl
theorem laidOut : laidOutB Try.prog = true := by kernel_rfl
theorem opn86 : Opn Try.prog 86 k86 := opn_iso (opn_struct Try.underlying86 (by kernel_rfl) (by kernel_rfl) (opnL_cons (opn_int Try.underlying3) (opnL_cons (opn_int Try.underlying3) (opnL_cons (opn_int Try.underlying3) (opnL_cons (opn_int Try.underlying3) (opnL_cons (opn_int Try.underlying3) (opnL_one (opn_slice Try.underlying29 (by kernel_rfl) (opn_int Try.underlying3))))))))) (fun a => ⟨⟨a.1, a.2.1, a.2.2.1, a.2.2.2.1, a.2.2.2.2.1, a.2.2.2.2.2⟩, rfl⟩)
theorem opn38 : Opn Try.prog 38 k38 := opn_iso (opn_struct Try.underlying38 (by kernel_rfl) (by kernel_rfl) (opnL_cons (opn_int Try.underlying3) (opnL_cons (opn_int Try.underlying3) (opnL_one (opn_slice Try.underlying29 (by kernel_rfl) (opn_int Try.underlying3)))))) (fun a => ⟨⟨a.1, a.2.1, a.2.2⟩, rfl⟩)
theorem opn40 : Opn Try.prog 40 k40 := opn_iso (opn_struct Try.underlying40 (by kernel_rfl) (by kernel_rfl) (opnL_cons (opn_int Try.underlying3) (opnL_one (opn_int Try.underlying3)))) (fun a => ⟨⟨a.1, a.2⟩, rfl⟩)
set_option maxRecDepth 100000 in
theorem lifted (os : Os) (started : os.Started) (H : Type) (enc : TypeId × Value → H) :
    ReturnsInHanded {} Try.checked os 5 .any (Rows.fnExactMayJudgeSpec.pre6 enc Try.prog Try.f5 Rows.fnExactMayJudgeRow.domain false) (Rows.fnExactMayJudgeSpec.post enc Try.prog Try.f5 false true false false) := by
  refine returnsInHanded_of_change_sized (C := Try.checked) own started (by kernel_rfl) Try.func5
    (ChangeSpec.witness6 (enc := enc) (C := Try.checked) false ⟨#[], #[.slice none 0 0, .agg #[.int .i64 0, .int .i64 0, .slice none 0 0], .agg #[.int .i64 0, .int .i64 0]], []⟩ 8 (by kernel_rfl) (by kernel_rfl) (by kernel_rfl) (by kernel_rfl)) ?_
  intro W base args ds gs before hval0 hW hcnd hsz0 _
  have hval : ∀ (j : Nat) t v, Try.f5.params[j]? = some t → args[j]? = some v → Value.okWide Try.prog W .any base t v := hval0
  have hW' := hW
  obtain ⟨p, q, hA0, hV, rfl, hfz, hnd⟩ := hW
  have hA : DataW.TrodAll enc Try.prog W 0 (fun _ => true) true Try.f5.params.toList args.toList ds p := hA0
  rw [Try.params5] at hA hval
  obtain ⟨v0, vs0, d0, ds0, p0, q0, hargs, rfl, rfl, h0, r0⟩ := trodAll_cons hA
  obtain ⟨v1, vs1, d1, ds1, p1, q1, rfl, rfl, rfl, h1, r1⟩ := trodAll_cons r0
  obtain ⟨v2, vs2, d2, ds2, p2, q2, rfl, rfl, rfl, h2, r2⟩ := trodAll_cons r1
  obtain ⟨rfl, rfl, rfl⟩ := trodAll_nil r2
  obtain rfl : args = #[v0, v1, v2] := by cases args; simp_all
  obtain ⟨rfl, rfl⟩ := trodVars_none hV
  obtain ⟨a0, len0, cap0, rfl⟩ := okWide_slice Try.underlying36 (hval 0 36 v0 rfl rfl)
  have g0 := h0
  have lt0 : ∀ x ∈ p0, x.block < W.heap.size := by obtain ⟨m, hm⟩ := g0; exact DataW.trod_lt m _ _ _ hm
  obtain ⟨l0, e0, hc0, hr0⟩ := opened (d := k86) (opn_slice Try.underlying36 (by kernel_rfl) opn86) h0
  subst e0
  obtain ⟨cs1, rfl, _⟩ := okWide_struct Try.underlying38 (hval 1 38 v1 rfl rfl)
  have g1 := h1
  have lt1 : ∀ x ∈ p1, x.block < W.heap.size := by obtain ⟨m, hm⟩ := g1; exact DataW.trod_lt m _ _ _ hm
  obtain ⟨x1, hx1⟩ := opened_struct (d := k38) opn38 h1
  obtain ⟨_, _, hcs1, rfl, ⟨_, _, rfl, rfl, ⟨A1_2, c1_2, rfl, hc1_2, hr1_2⟩⟩⟩ := hx1
  obtain rfl : cs1 = #[.int .i64 x1.f0, .int .i64 x1.f1, .slice A1_2 x1.f2.length c1_2] := by cases cs1; simp_all
  obtain ⟨cs2, rfl, _⟩ := okWide_struct Try.underlying40 (hval 2 40 v2 rfl rfl)
  have g2 := h2
  have lt2 : ∀ x ∈ p2, x.block < W.heap.size := by obtain ⟨m, hm⟩ := g2; exact DataW.trod_lt m _ _ _ hm
  obtain ⟨x2, hx2⟩ := opened_struct (d := k40) opn40 h2
  obtain ⟨_, _, hcs2, rfl, rfl⟩ := hx2
  obtain rfl : cs2 = #[.int .i64 x2.f0, .int .i64 x2.f1] := by cases cs2; simp_all
  clear hA0 hval0 hsz0
  obtain ⟨k, hk⟩ := L.FnExactMayJudge_pure l0 x1 x2 hr0.2.1 (fun x hx => by obtain ⟨c, hk⟩ := C_mem hr0 x hx; obtain ⟨_, _, _, _, ⟨_, _, _, _, ⟨_, _, _, _, ⟨_, _, _, _, ⟨_, _, _, _, ⟨_, _, _, _, hz⟩⟩⟩⟩⟩⟩ := hk; exact hz.2.1) hr1_2.2.1
  refine (laws_FnExactMayJudge.calls k a0 cap0 l0 x1.f0 x1.f1 A1_2 c1_2 x1.f2 x2.f0 x2.f1 true W hr0 hc0 hr1_2 hc1_2 hk).mono ?_
  rintro e W' ⟨he, bel0⟩
  have bel := bel0
  subst he
  exact ⟨_, rfl, _, _, _, [], _, [], hW', trodAll_mk1 (shut_bool Try.underlying4 _), (trodAll_cons_mk (Below.trod laidOut (by kernel_rfl) (of_decide_eq_true (by kernel_rfl)) g0 bel lt0) (trodAll_cons_mk (Below.trod laidOut (by kernel_rfl) (of_decide_eq_true (by kernel_rfl)) g1 bel lt1) (trodAll_cons_mk (Below.trod laidOut (by kernel_rfl) (of_decide_eq_true (by kernel_rfl)) g2 bel lt2) trodAll_mk0))), rfl, bel.frame _, fun h => by cases h⟩
theorem over : Rows.fnExactMayJudgeRow.holds Try.pinned (OpenSpec.ofChange Rows.fnExactMayJudgeSpec) :=
  OpenClaim.holds_of_wide 5 Try.f5 rfl rfl rfl rfl rfl rfl rfl ⟨rfl, rfl, rfl, rfl, rfl⟩ rfl rfl rfl rfl rfl (by kernel_rfl) Try.func5 (by kernel_rfl)
    (of_decide_eq_true (by kernel_rfl)) (by unfold Func.isWrapper; first | (rw [if_pos (by decide +kernel)]; kernel_rfl) | (rw [if_neg (by decide +kernel)]; exact ⟨rfl, rfl⟩))
    (fun os started H enc _ => lifted os started H enc)
theorem proved : Rows.FnExactMayJudgeSaid := over
#print axioms proved
end Go.Proofs.Ytdlebbmmanjffaa.fnExactMayJudge
namespace Go.Proofs.Ytdlebbmmanjffaa
theorem fnExactMayJudge_holds : Rows.FnExactMayJudgeSaid := fnExactMayJudge.proved
end Go.Proofs.Ytdlebbmmanjffaa
