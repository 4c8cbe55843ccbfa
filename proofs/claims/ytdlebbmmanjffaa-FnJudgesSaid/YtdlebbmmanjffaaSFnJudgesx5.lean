/- What the row FnJudges rests on, put together: A44, LOpen, LCont, LJudgei, LMayJi, LTeam2, LPrD, LSeati, LSeatJi, LSeatdi, LFreei, LContains, LSeatK, LDraw0, LDraw, LHas, A70, LMet, A71, LMay, LHCloT, LHStand, LOrd, LAddF, LAddS, A45, LDrawT, LPerm, LRoundP, LStandP, A69, LSide, LPairR, LPairS, LDrawJ, LXFnJudges. No condition. -/
import Derived.Test.YtdlebbmmanjffaaSFnJudgesx0
import Derived.Test.YtdlebbmmanjffaaSFnJudgesx1
import Derived.Test.YtdlebbmmanjffaaSFnJudgesx4
import Derived.Deep.Slices
import Derived.Deep.Fields
import Derived.ChangeSame
import Derived.Lib.SmallJoins
import Derived.Test.YtdlebbmmanjffaaSFnJudgesx2
import Derived.Test.YtdlebbmmanjffaaSFnJudgesx3
import Derived.Shelf.SlSortCmp.NoneTotal
section
namespace Go.Proofs.Ytdlebbmmanjffaa.A
open Go.RowKit Go.Proofs.YtdlebbmmanjffaaW.PrintWords Go.Proofs.YtdlebbmmanjffaaW.PrintLast Go.Proofs.YtdlebbmmanjffaaW.PrintMore
attribute [local go_sem] max2_int min2_int max_two min_two max_three min_three max_four min_four
set_option linter.unusedVariables false
set_option linter.unusedSimpArgs false
mutual
def laws_FnJudges.j0 : Nat → List (S46) → List Int → Bool → Option (Bool)
  | 0, _, _, _ => none
  | k + 1, x4, x6, x58 => if x58 = true then (some false) else ((impl_FreeJudges.f k x4 x6).bind fun t482 => (laws_FnJudges.l0 k x4 x6 t482 0))
def laws_FnJudges.l0 : Nat → List (S46) → List Int → List Int → Int → Option (Bool)
  | 0, _, _, _, _ => none
  | k + 1, x4, x6, x8, x9 => if x9 < (x4.length : Int) then (if 0 ≤ x9 then ((laws_contains.f k x8 ((rd_T46 x4 x9).f0)).bind fun t486 => ((laws_contains.f k x6 ((rd_T46 x4 x9).f0)).bind fun t488 => (if (t486 == t488) = true then (some false) else (laws_FnJudges.l0 k x4 x6 x8 (wrap64 (x9 + 1)))))) else (none)) else (some true)
end
def laws_FnJudges.f (k : Nat) (l0 : List Int) : Option (Bool) := (laws_big.f l0).bind fun t461 => (if t461 = true then (some true) else ((spec_DrawSeatJudges.f k l0).bind fun bt462 => ((impl_SeatJudges.f k bt462.1 bt462.2.1 bt462.2.2).bind fun bt471 => (if bt471.2 = true then ((impl_AreSeated.f k bt462.1 bt462.2.1 bt462.2.2 bt471.1).bind fun t475 => (if t475 = true then ((impl_AreJudges.f k bt462.2.1).bind fun t476 => (if t476 = true then ((impl_AreTeams.f k bt462.1).bind fun t477 => (if t477 = true then ((laws_seating.f k bt462.1 bt462.2.1 bt462.2.2 ([] : List Int)).bind fun t478 => (laws_FnJudges.j0 k bt462.2.1 bt471.1 (bt471.2 != t478))) else (laws_FnJudges.j0 k bt462.2.1 bt471.1 false))) else (laws_FnJudges.j0 k bt462.2.1 bt471.1 false))) else (laws_FnJudges.j0 k bt462.2.1 bt471.1 true))) else (if (bt471.1.length : Int) > 0 then (laws_FnJudges.j0 k bt462.2.1 bt471.1 true) else ((impl_AreJudges.f k bt462.2.1).bind fun t479 => (if t479 = true then ((impl_AreTeams.f k bt462.1).bind fun t480 => (if t480 = true then ((laws_seating.f k bt462.1 bt462.2.1 bt462.2.2 ([] : List Int)).bind fun t481 => (laws_FnJudges.j0 k bt462.2.1 bt471.1 (bt471.2 != t481))) else (laws_FnJudges.j0 k bt462.2.1 bt471.1 false))) else (laws_FnJudges.j0 k bt462.2.1 bt471.1 false))))))))
set_option maxHeartbeats 8000000 in
set_option maxRecDepth 100000 in
theorem laws_FnJudges.calls (k : Nat) (A0 : Option Addr) (c0 : Nat) (l0 : List Int) (r : Bool) (w : World) (hr0 : Kd.C (Kd.int .u8) w A0 l0.length l0) (hc0 : l0.length ≤ c0) (h : laws_FnJudges.f k l0 = some r) :
  Calls Try.prog 8 #[.slice A0 l0.length c0] w fun e w' => e = .returned (.bool r) ∧ Below w.heap.size w w' := by
 have HR0 := Aside0.mk hr0
 have HC0 := Aside0.mk hc0
 clear hr0 hc0
 have HB := Aside0.mk (Below.refl w.heap.size w)
 have H : ((laws_big.f l0).bind fun t461 => (if t461 = true then (some true) else ((spec_DrawSeatJudges.f k l0).bind fun bt462 => ((impl_SeatJudges.f k bt462.1 bt462.2.1 bt462.2.2).bind fun bt471 => (if bt471.2 = true then ((impl_AreSeated.f k bt462.1 bt462.2.1 bt462.2.2 bt471.1).bind fun t475 => (if t475 = true then ((impl_AreJudges.f k bt462.2.1).bind fun t476 => (if t476 = true then ((impl_AreTeams.f k bt462.1).bind fun t477 => (if t477 = true then ((laws_seating.f k bt462.1 bt462.2.1 bt462.2.2 ([] : List Int)).bind fun t478 => (laws_FnJudges.j0 k bt462.2.1 bt471.1 (bt471.2 != t478))) else (laws_FnJudges.j0 k bt462.2.1 bt471.1 false))) else (laws_FnJudges.j0 k bt462.2.1 bt471.1 false))) else (laws_FnJudges.j0 k bt462.2.1 bt471.1 true))) else (if (bt471.1.length : Int) > 0 then (laws_FnJudges.j0 k bt462.2.1 bt471.1 true) else ((impl_AreJudges.f k bt462.2.1).bind fun t479 => (if t479 = true then ((impl_AreTeams.f k bt462.1).bind fun t480 => (if t480 = true then ((laws_seating.f k bt462.1 bt462.2.1 bt462.2.2 ([] : List Int)).bind fun t481 => (laws_FnJudges.j0 k bt462.2.1 bt471.1 (bt471.2 != t481))) else (laws_FnJudges.j0 k bt462.2.1 bt471.1 false))) else (laws_FnJudges.j0 k bt462.2.1 bt471.1 false))))))))) = some r := h
 clear h
 replace H := Option.bind_eq_some_iff.mp H
 obtain ⟨t461, A20, H⟩ := H
 replace H : (if t461 = true then (some true) else ((spec_DrawSeatJudges.f k l0).bind fun bt462 => ((impl_SeatJudges.f k bt462.1 bt462.2.1 bt462.2.2).bind fun bt471 => (if bt471.2 = true then ((impl_AreSeated.f k bt462.1 bt462.2.1 bt462.2.2 bt471.1).bind fun t475 => (if t475 = true then ((impl_AreJudges.f k bt462.2.1).bind fun t476 => (if t476 = true then ((impl_AreTeams.f k bt462.1).bind fun t477 => (if t477 = true then ((laws_seating.f k bt462.1 bt462.2.1 bt462.2.2 ([] : List Int)).bind fun t478 => (laws_FnJudges.j0 k bt462.2.1 bt471.1 (bt471.2 != t478))) else (laws_FnJudges.j0 k bt462.2.1 bt471.1 false))) else (laws_FnJudges.j0 k bt462.2.1 bt471.1 false))) else (laws_FnJudges.j0 k bt462.2.1 bt471.1 true))) else (if (bt471.1.length : Int) > 0 then (laws_FnJudges.j0 k bt462.2.1 bt471.1 true) else ((impl_AreJudges.f k bt462.2.1).bind fun t479 => (if t479 = true then ((impl_AreTeams.f k bt462.1).bind fun t480 => (if t480 = true then ((laws_seating.f k bt462.1 bt462.2.1 bt462.2.2 ([] : List Int)).bind fun t481 => (laws_FnJudges.j0 k bt462.2.1 bt471.1 (bt471.2 != t481))) else (laws_FnJudges.j0 k bt462.2.1 bt471.1 false))) else (laws_FnJudges.j0 k bt462.2.1 bt471.1 false)))))))) = some r := H
 have A2 := Aside0.mk A20
 clear A20
 by_cases c3 : t461 = true
 rotate_left
 ·
  replace c3 := Bool.eq_false_iff.mpr c3
  subst c3
  have H1 : ((spec_DrawSeatJudges.f k l0).bind fun bt462 => ((impl_SeatJudges.f k bt462.1 bt462.2.1 bt462.2.2).bind fun bt471 => (if bt471.2 = true then ((impl_AreSeated.f k bt462.1 bt462.2.1 bt462.2.2 bt471.1).bind fun t475 => (if t475 = true then ((impl_AreJudges.f k bt462.2.1).bind fun t476 => (if t476 = true then ((impl_AreTeams.f k bt462.1).bind fun t477 => (if t477 = true then ((laws_seating.f k bt462.1 bt462.2.1 bt462.2.2 ([] : List Int)).bind fun t478 => (laws_FnJudges.j0 k bt462.2.1 bt471.1 (bt471.2 != t478))) else (laws_FnJudges.j0 k bt462.2.1 bt471.1 false))) else (laws_FnJudges.j0 k bt462.2.1 bt471.1 false))) else (laws_FnJudges.j0 k bt462.2.1 bt471.1 true))) else (if (bt471.1.length : Int) > 0 then (laws_FnJudges.j0 k bt462.2.1 bt471.1 true) else ((impl_AreJudges.f k bt462.2.1).bind fun t479 => (if t479 = true then ((impl_AreTeams.f k bt462.1).bind fun t480 => (if t480 = true then ((laws_seating.f k bt462.1 bt462.2.1 bt462.2.2 ([] : List Int)).bind fun t481 => (laws_FnJudges.j0 k bt462.2.1 bt471.1 (bt471.2 != t481))) else (laws_FnJudges.j0 k bt462.2.1 bt471.1 false))) else (laws_FnJudges.j0 k bt462.2.1 bt471.1 false))))))) = some r := by rw [if_neg (show ¬ (false = true) by decide)] at H; exact H
  clear H
  have H := H1
  clear H1
  replace H := Option.bind_eq_some_iff.mp H
  obtain ⟨⟨t462, t463, t464⟩, A40, H⟩ := H
  replace H : ((impl_SeatJudges.f k t462 t463 t464).bind fun bt471 => (if bt471.2 = true then ((impl_AreSeated.f k t462 t463 t464 bt471.1).bind fun t475 => (if t475 = true then ((impl_AreJudges.f k t463).bind fun t476 => (if t476 = true then ((impl_AreTeams.f k t462).bind fun t477 => (if t477 = true then ((laws_seating.f k t462 t463 t464 ([] : List Int)).bind fun t478 => (laws_FnJudges.j0 k t463 bt471.1 (bt471.2 != t478))) else (laws_FnJudges.j0 k t463 bt471.1 false))) else (laws_FnJudges.j0 k t463 bt471.1 false))) else (laws_FnJudges.j0 k t463 bt471.1 true))) else (if (bt471.1.length : Int) > 0 then (laws_FnJudges.j0 k t463 bt471.1 true) else ((impl_AreJudges.f k t463).bind fun t479 => (if t479 = true then ((impl_AreTeams.f k t462).bind fun t480 => (if t480 = true then ((laws_seating.f k t462 t463 t464 ([] : List Int)).bind fun t481 => (laws_FnJudges.j0 k t463 bt471.1 (bt471.2 != t481))) else (laws_FnJudges.j0 k t463 bt471.1 false))) else (laws_FnJudges.j0 k t463 bt471.1 false)))))) = some r := H
  have A4 := Aside0.mk A40
  clear A40
  replace H := Option.bind_eq_some_iff.mp H
  obtain ⟨⟨t471, t472⟩, A50, H⟩ := H
  replace H : (if t472 = true then ((impl_AreSeated.f k t462 t463 t464 t471).bind fun t475 => (if t475 = true then ((impl_AreJudges.f k t463).bind fun t476 => (if t476 = true then ((impl_AreTeams.f k t462).bind fun t477 => (if t477 = true then ((laws_seating.f k t462 t463 t464 ([] : List Int)).bind fun t478 => (laws_FnJudges.j0 k t463 t471 (t472 != t478))) else (laws_FnJudges.j0 k t463 t471 false))) else (laws_FnJudges.j0 k t463 t471 false))) else (laws_FnJudges.j0 k t463 t471 true))) else (if (t471.length : Int) > 0 then (laws_FnJudges.j0 k t463 t471 true) else ((impl_AreJudges.f k t463).bind fun t479 => (if t479 = true then ((impl_AreTeams.f k t462).bind fun t480 => (if t480 = true then ((laws_seating.f k t462 t463 t464 ([] : List Int)).bind fun t481 => (laws_FnJudges.j0 k t463 t471 (t472 != t481))) else (laws_FnJudges.j0 k t463 t471 false))) else (laws_FnJudges.j0 k t463 t471 false))))) = some r := H
  have A5 := Aside0.mk A50
  clear A50
  have HC6 := Aside0.mk H
  clear H
  go_enter Try.func8, Try.ntmps8
  go_upto_region 5 with (first | (go_at_call 40; (with_reducible refine (laws_big.calls _ _ l0 false _ ?side1 ?side2 A2.out).mono ?_); (case side1 => repeat (first | exact HR0.out | (with_reducible first | refine cA ?_ _ | refine cN ?_ _ | refine cD ?_))); (case side2 => exact HC0.out); rintro e w' ⟨rfl, ⟨nd, rfl⟩⟩; (try first | exact ⟨rfl, _, dN⟩ | exact ⟨rfl, _, dE⟩)) | (go_at_call 41; (with_reducible refine (spec_DrawSeatJudges.calls k _ _ l0 t462 t463 t464 _ ?side1 ?side2 A4.out).mono ?_); (case side1 => repeat (first | exact HR0.out | (with_reducible first | refine cA ?_ _ | refine cN ?_ _ | refine cD ?_))); (case side2 => exact HC0.out); rintro e w7 ⟨v465, v467, v469, rfl, ho0, ho1, ho2, hb⟩; replace HO466 := Aside0.mk (Kd.S_lower ho0 (below_size (by repeat (first | (with_reducible first | exact HB.out | apply bA | apply bN | apply bD) | exact HB.out)))); replace HO468 := Aside0.mk (Kd.S_lower ho1 (below_size (by repeat (first | (with_reducible first | exact HB.out | apply bA | apply bN | apply bD) | exact HB.out)))); replace HO470 := Aside0.mk (Kd.R_lower ho2 (below_size (by repeat (first | (with_reducible first | exact HB.out | apply bA | apply bN | apply bD) | exact HB.out)))); replace HB := Aside0.mk (below_step (by repeat (first | (with_reducible first | exact HB.out | apply bA | apply bN | apply bD) | exact HB.out)) hb); (try clear hb); (try clear hb2); (try clear hk); (try clear hi); (try clear ho0); (try clear ho1); (try clear ho2); obtain ⟨Ao8, co8, eo8⟩ := Kd.S_slice HO466.out; subst eo8; obtain ⟨Ao9, co9, eo9⟩ := Kd.S_slice HO468.out; subst eo9; obtain ⟨Ao10, co10, eo10⟩ := Kd.R_slice HO470.out; subst eo10) | (go_at_call 37; (with_reducible refine (impl_SeatJudges.calls k _ _ t462 _ _ t463 _ _ t464 t471 t472 _ ?side1 ?side2 ?side3 ?side4 ?side5 ?side6 A5.out).mono ?_); (case side1 => repeat (first | exact (Kd.S_reads' HO466.out).2.2 | (with_reducible first | refine cA ?_ _ | refine cN ?_ _ | refine cD ?_))); (case side2 => exact (Kd.S_reads' HO466.out).2.1); (case side3 => repeat (first | exact (Kd.S_reads' HO468.out).2.2 | (with_reducible first | refine cA ?_ _ | refine cN ?_ _ | refine cD ?_))); (case side4 => exact (Kd.S_reads' HO468.out).2.1); (case side5 => repeat (first | exact (Kd.R_reads' HO470.out).2.2 | (with_reducible first | refine cA ?_ _ | refine cN ?_ _ | refine cD ?_))); (case side6 => exact (Kd.R_reads' HO470.out).2.1); rintro e w11 ⟨v473, rfl, ho0, hb⟩; replace HO466 := Aside0.mk (Kd.S_elder' (by (with_reducible repeat (first | apply sA | apply sN | apply sD)); exact HO466.out) (Kd.R_base ho0) hb); replace HO468 := Aside0.mk (Kd.S_elder' (by (with_reducible repeat (first | apply sA | apply sN | apply sD)); exact HO468.out) (Kd.R_base ho0) hb); replace HO470 := Aside0.mk (Kd.R_below (by (with_reducible repeat (first | apply rA | apply rN | apply rD)); exact HO470.out) hb); replace HO474 := Aside0.mk (Kd.R_lower ho0 (below_size (by repeat (first | (with_reducible first | exact HB.out | apply bA | apply bN | apply bD) | exact HB.out)))); replace HB := Aside0.mk (below_step (by repeat (first | (with_reducible first | exact HB.out | apply bA | apply bN | apply bD) | exact HB.out)) hb); (try clear hb); (try clear hb2); (try clear hk); (try clear hi); (try clear ho0)))
  have hw64 : ∀ x : Int, IntKind.i64.wrap x = wrap64 x := by intro x; rw [IntKind.wrap_i64]; unfold wrap64; rfl
  repeat (go_quiet (first | (go_at_call 40; (with_reducible refine (laws_big.calls _ _ l0 false _ ?side1 ?side2 A2.out).mono ?_); (case side1 => repeat (first | exact HR0.out | (with_reducible first | refine cA ?_ _ | refine cN ?_ _ | refine cD ?_))); (case side2 => exact HC0.out); rintro e w' ⟨rfl, ⟨nd, rfl⟩⟩; (try first | exact ⟨rfl, _, dN⟩ | exact ⟨rfl, _, dE⟩)) | (go_at_call 41; (with_reducible refine (spec_DrawSeatJudges.calls k _ _ l0 t462 t463 t464 _ ?side1 ?side2 A4.out).mono ?_); (case side1 => repeat (first | exact HR0.out | (with_reducible first | refine cA ?_ _ | refine cN ?_ _ | refine cD ?_))); (case side2 => exact HC0.out); rintro e w7 ⟨v465, v467, v469, rfl, ho0, ho1, ho2, hb⟩; replace HO466 := Aside0.mk (Kd.S_lower ho0 (below_size (by repeat (first | (with_reducible first | exact HB.out | apply bA | apply bN | apply bD) | exact HB.out)))); replace HO468 := Aside0.mk (Kd.S_lower ho1 (below_size (by repeat (first | (with_reducible first | exact HB.out | apply bA | apply bN | apply bD) | exact HB.out)))); replace HO470 := Aside0.mk (Kd.R_lower ho2 (below_size (by repeat (first | (with_reducible first | exact HB.out | apply bA | apply bN | apply bD) | exact HB.out)))); replace HB := Aside0.mk (below_step (by repeat (first | (with_reducible first | exact HB.out | apply bA | apply bN | apply bD) | exact HB.out)) hb); (try clear hb); (try clear hb2); (try clear hk); (try clear hi); (try clear ho0); (try clear ho1); (try clear ho2); obtain ⟨Ao8, co8, eo8⟩ := Kd.S_slice HO466.out; subst eo8; obtain ⟨Ao9, co9, eo9⟩ := Kd.S_slice HO468.out; subst eo9; obtain ⟨Ao10, co10, eo10⟩ := Kd.R_slice HO470.out; subst eo10) | (go_at_call 37; (with_reducible refine (impl_SeatJudges.calls k _ _ t462 _ _ t463 _ _ t464 t471 t472 _ ?side1 ?side2 ?side3 ?side4 ?side5 ?side6 A5.out).mono ?_); (case side1 => repeat (first | exact (Kd.S_reads' HO466.out).2.2 | (with_reducible first | refine cA ?_ _ | refine cN ?_ _ | refine cD ?_))); (case side2 => exact (Kd.S_reads' HO466.out).2.1); (case side3 => repeat (first | exact (Kd.S_reads' HO468.out).2.2 | (with_reducible first | refine cA ?_ _ | refine cN ?_ _ | refine cD ?_))); (case side4 => exact (Kd.S_reads' HO468.out).2.1); (case side5 => repeat (first | exact (Kd.R_reads' HO470.out).2.2 | (with_reducible first | refine cA ?_ _ | refine cN ?_ _ | refine cD ?_))); (case side6 => exact (Kd.R_reads' HO470.out).2.1); rintro e w11 ⟨v473, rfl, ho0, hb⟩; replace HO466 := Aside0.mk (Kd.S_elder' (by (with_reducible repeat (first | apply sA | apply sN | apply sD)); exact HO466.out) (Kd.R_base ho0) hb); replace HO468 := Aside0.mk (Kd.S_elder' (by (with_reducible repeat (first | apply sA | apply sN | apply sD)); exact HO468.out) (Kd.R_base ho0) hb); replace HO470 := Aside0.mk (Kd.R_below (by (with_reducible repeat (first | apply rA | apply rN | apply rD)); exact HO470.out) hb); replace HO474 := Aside0.mk (Kd.R_lower ho0 (below_size (by repeat (first | (with_reducible first | exact HB.out | apply bA | apply bN | apply bD) | exact HB.out)))); replace HB := Aside0.mk (below_step (by repeat (first | (with_reducible first | exact HB.out | apply bA | apply bN | apply bD) | exact HB.out)) hb); (try clear hb); (try clear hb2); (try clear hk); (try clear hi); (try clear ho0))); go_upto_region 5 with (first | (go_at_call 40; (with_reducible refine (laws_big.calls _ _ l0 false _ ?side1 ?side2 A2.out).mono ?_); (case side1 => repeat (first | exact HR0.out | (with_reducible first | refine cA ?_ _ | refine cN ?_ _ | refine cD ?_))); (case side2 => exact HC0.out); rintro e w' ⟨rfl, ⟨nd, rfl⟩⟩; (try first | exact ⟨rfl, _, dN⟩ | exact ⟨rfl, _, dE⟩)) | (go_at_call 41; (with_reducible refine (spec_DrawSeatJudges.calls k _ _ l0 t462 t463 t464 _ ?side1 ?side2 A4.out).mono ?_); (case side1 => repeat (first | exact HR0.out | (with_reducible first | refine cA ?_ _ | refine cN ?_ _ | refine cD ?_))); (case side2 => exact HC0.out); rintro e w7 ⟨v465, v467, v469, rfl, ho0, ho1, ho2, hb⟩; replace HO466 := Aside0.mk (Kd.S_lower ho0 (below_size (by repeat (first | (with_reducible first | exact HB.out | apply bA | apply bN | apply bD) | exact HB.out)))); replace HO468 := Aside0.mk (Kd.S_lower ho1 (below_size (by repeat (first | (with_reducible first | exact HB.out | apply bA | apply bN | apply bD) | exact HB.out)))); replace HO470 := Aside0.mk (Kd.R_lower ho2 (below_size (by repeat (first | (with_reducible first | exact HB.out | apply bA | apply bN | apply bD) | exact HB.out)))); replace HB := Aside0.mk (below_step (by repeat (first | (with_reducible first | exact HB.out | apply bA | apply bN | apply bD) | exact HB.out)) hb); (try clear hb); (try clear hb2); (try clear hk); (try clear hi); (try clear ho0); (try clear ho1); (try clear ho2); obtain ⟨Ao8, co8, eo8⟩ := Kd.S_slice HO466.out; subst eo8; obtain ⟨Ao9, co9, eo9⟩ := Kd.S_slice HO468.out; subst eo9; obtain ⟨Ao10, co10, eo10⟩ := Kd.R_slice HO470.out; subst eo10) | (go_at_call 37; (with_reducible refine (impl_SeatJudges.calls k _ _ t462 _ _ t463 _ _ t464 t471 t472 _ ?side1 ?side2 ?side3 ?side4 ?side5 ?side6 A5.out).mono ?_); (case side1 => repeat (first | exact (Kd.S_reads' HO466.out).2.2 | (with_reducible first | refine cA ?_ _ | refine cN ?_ _ | refine cD ?_))); (case side2 => exact (Kd.S_reads' HO466.out).2.1); (case side3 => repeat (first | exact (Kd.S_reads' HO468.out).2.2 | (with_reducible first | refine cA ?_ _ | refine cN ?_ _ | refine cD ?_))); (case side4 => exact (Kd.S_reads' HO468.out).2.1); (case side5 => repeat (first | exact (Kd.R_reads' HO470.out).2.2 | (with_reducible first | refine cA ?_ _ | refine cN ?_ _ | refine cD ?_))); (case side6 => exact (Kd.R_reads' HO470.out).2.1); rintro e w11 ⟨v473, rfl, ho0, hb⟩; replace HO466 := Aside0.mk (Kd.S_elder' (by (with_reducible repeat (first | apply sA | apply sN | apply sD)); exact HO466.out) (Kd.R_base ho0) hb); replace HO468 := Aside0.mk (Kd.S_elder' (by (with_reducible repeat (first | apply sA | apply sN | apply sD)); exact HO468.out) (Kd.R_base ho0) hb); replace HO470 := Aside0.mk (Kd.R_below (by (with_reducible repeat (first | apply rA | apply rN | apply rD)); exact HO470.out) hb); replace HO474 := Aside0.mk (Kd.R_lower ho0 (below_size (by repeat (first | (with_reducible first | exact HB.out | apply bA | apply bN | apply bD) | exact HB.out)))); replace HB := Aside0.mk (below_step (by repeat (first | (with_reducible first | exact HB.out | apply bA | apply bN | apply bD) | exact HB.out)) hb); (try clear hb); (try clear hb2); (try clear hk); (try clear hi); (try clear ho0))))
  try clear hw64
  (try simp only [Act.put, Z1, Z2, Z3])
  go_cut [58] (fun v58 wc => ∃ (kq : Nat) (x58_5 : Bool), v58 = .bool x58_5 ∧ Aside0 (laws_FnJudges.j0 kq t463 t471 x58_5 = some r) ∧ Aside0 (kq ≤ k) ∧ Aside0 (Kd.S k46 46 wc w.heap.size (fun k_ => some k_ ≠ (v473 : Value).ownBlock) (.slice Ao9 t463.length co9) t463) ∧ Aside0 (Kd.R (Kd.int .i64) 3 wc w.heap.size (fun _ => True) v473 t471) ∧ Aside0 (Below w.heap.size w wc))
  case first =>
   have H := HC6.out
   clear HC6
   by_cases c12 : t472 = true
   rotate_left
   ·
    replace c12 := Bool.eq_false_iff.mpr c12
    subst c12
    have H1 : (if (t471.length : Int) > 0 then (laws_FnJudges.j0 k t463 t471 true) else ((impl_AreJudges.f k t463).bind fun t479 => (if t479 = true then ((impl_AreTeams.f k t462).bind fun t480 => (if t480 = true then ((laws_seating.f k t462 t463 t464 ([] : List Int)).bind fun t481 => (laws_FnJudges.j0 k t463 t471 (false != t481))) else (laws_FnJudges.j0 k t463 t471 false))) else (laws_FnJudges.j0 k t463 t471 false)))) = some r := by rw [if_neg (show ¬ (false = true) by decide)] at H; exact H
    clear H
    have H := H1
    clear H1
    by_cases c34 : (t471.length : Int) > 0
    rotate_left
    ·
     rw [if_neg c34] at H
     have c34b0 : decide (0 < (t471.length : Int)) = false := decide_eq_false c34
     have c34b1 : decide (0 < t471.length) = false := decide_eq_false (by omega)
     clear c34
     (first | rw [c34b0] | (simp only [i64_w, i32_w]; rw [c34b0]) | skip)
     replace H := Option.bind_eq_some_iff.mp H
     obtain ⟨t479, A360, H⟩ := H
     replace H : (if t479 = true then ((impl_AreTeams.f k t462).bind fun t480 => (if t480 = true then ((laws_seating.f k t462 t463 t464 ([] : List Int)).bind fun t481 => (laws_FnJudges.j0 k t463 t471 (false != t481))) else (laws_FnJudges.j0 k t463 t471 false))) else (laws_FnJudges.j0 k t463 t471 false)) = some r := H
     have A36 := Aside0.mk A360
     clear A360
     by_cases c37 : t479 = true
     rotate_left
     ·
      replace c37 := Bool.eq_false_iff.mpr c37
      subst c37
      have H1 : (laws_FnJudges.j0 k t463 t471 false) = some r := by rw [if_neg (show ¬ (false = true) by decide)] at H; exact H
      clear H
      have H := H1
      clear H1
      have H' := Aside0.mk H
      clear H
      obtain ⟨Ao48, co48, eo48⟩ := Kd.R_slice HO474.out
      subst eo48
      go_wp2_with (first | (go_at_call 13; (with_reducible refine (impl_AreJudges.calls k _ _ t463 false _ ?side1 ?side2 A36.out).mono ?_); (case side1 => repeat (first | exact (Kd.S_reads' HO468.out).2.2 | (with_reducible first | refine cA ?_ _ | refine cN ?_ _ | refine cD ?_))); (case side2 => exact (Kd.S_reads' HO468.out).2.1); rintro e w49 ⟨rfl, hb⟩; replace HO466 := Aside0.mk (Kd.S_below (by (with_reducible repeat (first | apply sA | apply sN | apply sD)); exact HO466.out) hb); replace HO468 := Aside0.mk (Kd.S_below (by (with_reducible repeat (first | apply sA | apply sN | apply sD)); exact HO468.out) hb); replace HO470 := Aside0.mk (Kd.R_below (by (with_reducible repeat (first | apply rA | apply rN | apply rD)); exact HO470.out) hb); replace HO474 := Aside0.mk (Kd.R_below (by (with_reducible repeat (first | apply rA | apply rN | apply rD)); exact HO474.out) hb); replace HB := Aside0.mk (below_step (by repeat (first | (with_reducible first | exact HB.out | apply bA | apply bN | apply bD) | exact HB.out)) hb); (try clear hb); (try clear hb2); (try clear hk); (try clear hi)))
      have hw64 : ∀ x : Int, IntKind.i64.wrap x = wrap64 x := by intro x; rw [IntKind.wrap_i64]; unfold wrap64; rfl
      repeat (go_quiet (first | (go_at_call 13; (with_reducible refine (impl_AreJudges.calls k _ _ t463 false _ ?side1 ?side2 A36.out).mono ?_); (case side1 => repeat (first | exact (Kd.S_reads' HO468.out).2.2 | (with_reducible first | refine cA ?_ _ | refine cN ?_ _ | refine cD ?_))); (case side2 => exact (Kd.S_reads' HO468.out).2.1); rintro e w49 ⟨rfl, hb⟩; replace HO466 := Aside0.mk (Kd.S_below (by (with_reducible repeat (first | apply sA | apply sN | apply sD)); exact HO466.out) hb); replace HO468 := Aside0.mk (Kd.S_below (by (with_reducible repeat (first | apply sA | apply sN | apply sD)); exact HO468.out) hb); replace HO470 := Aside0.mk (Kd.R_below (by (with_reducible repeat (first | apply rA | apply rN | apply rD)); exact HO470.out) hb); replace HO474 := Aside0.mk (Kd.R_below (by (with_reducible repeat (first | apply rA | apply rN | apply rD)); exact HO474.out) hb); replace HB := Aside0.mk (below_step (by repeat (first | (with_reducible first | exact HB.out | apply bA | apply bN | apply bD) | exact HB.out)) hb); (try clear hb); (try clear hb2); (try clear hk); (try clear hi))); try go_wp2)
      try clear hw64
      go_meet
      case rel => exact ⟨_, (false), (by first | rfl | (simp; done) | (simp [*]; done)), H', ⟨by first | omega | exact Nat.le_refl _⟩, ⟨by (with_reducible repeat (first | apply sA | apply sN | apply sD)); exact Kd.S_mono HO468.out (fun _ hk => hk.2)⟩, ⟨by (with_reducible repeat (first | apply rA | apply rN | apply rD)); exact HO474.out⟩, ⟨by repeat (first | (with_reducible first | exact HB.out | apply bA | apply bN | apply bD) | exact HB.out)⟩⟩
     subst c37
     have H1 : ((impl_AreTeams.f k t462).bind fun t480 => (if t480 = true then ((laws_seating.f k t462 t463 t464 ([] : List Int)).bind fun t481 => (laws_FnJudges.j0 k t463 t471 (false != t481))) else (laws_FnJudges.j0 k t463 t471 false))) = some r := by rw [if_pos rfl] at H; exact H
     clear H
     have H := H1
     clear H1
     replace H := Option.bind_eq_some_iff.mp H
     obtain ⟨t480, A380, H⟩ := H
     replace H : (if t480 = true then ((laws_seating.f k t462 t463 t464 ([] : List Int)).bind fun t481 => (laws_FnJudges.j0 k t463 t471 (false != t481))) else (laws_FnJudges.j0 k t463 t471 false)) = some r := H
     have A38 := Aside0.mk A380
     clear A380
     by_cases c39 : t480 = true
     rotate_left
     ·
      replace c39 := Bool.eq_false_iff.mpr c39
      subst c39
      have H1 : (laws_FnJudges.j0 k t463 t471 false) = some r := by rw [if_neg (show ¬ (false = true) by decide)] at H; exact H
      clear H
      have H := H1
      clear H1
      have H' := Aside0.mk H
      clear H
      obtain ⟨Ao45, co45, eo45⟩ := Kd.R_slice HO474.out
      subst eo45
      go_wp2_with (first | (go_at_call 13; (with_reducible refine (impl_AreJudges.calls k _ _ t463 true _ ?side1 ?side2 A36.out).mono ?_); (case side1 => repeat (first | exact (Kd.S_reads' HO468.out).2.2 | (with_reducible first | refine cA ?_ _ | refine cN ?_ _ | refine cD ?_))); (case side2 => exact (Kd.S_reads' HO468.out).2.1); rintro e w46 ⟨rfl, hb⟩; replace HO466 := Aside0.mk (Kd.S_below (by (with_reducible repeat (first | apply sA | apply sN | apply sD)); exact HO466.out) hb); replace HO468 := Aside0.mk (Kd.S_below (by (with_reducible repeat (first | apply sA | apply sN | apply sD)); exact HO468.out) hb); replace HO470 := Aside0.mk (Kd.R_below (by (with_reducible repeat (first | apply rA | apply rN | apply rD)); exact HO470.out) hb); replace HO474 := Aside0.mk (Kd.R_below (by (with_reducible repeat (first | apply rA | apply rN | apply rD)); exact HO474.out) hb); replace HB := Aside0.mk (below_step (by repeat (first | (with_reducible first | exact HB.out | apply bA | apply bN | apply bD) | exact HB.out)) hb); (try clear hb); (try clear hb2); (try clear hk); (try clear hi)) | (go_at_call 42; (with_reducible refine (impl_AreTeams.calls k _ _ t462 false _ ?side1 ?side2 A38.out).mono ?_); (case side1 => repeat (first | exact (Kd.S_reads' HO466.out).2.2 | (with_reducible first | refine cA ?_ _ | refine cN ?_ _ | refine cD ?_))); (case side2 => exact (Kd.S_reads' HO466.out).2.1); rintro e w47 ⟨rfl, hb⟩; replace HO466 := Aside0.mk (Kd.S_below (by (with_reducible repeat (first | apply sA | apply sN | apply sD)); exact HO466.out) hb); replace HO468 := Aside0.mk (Kd.S_below (by (with_reducible repeat (first | apply sA | apply sN | apply sD)); exact HO468.out) hb); replace HO470 := Aside0.mk (Kd.R_below (by (with_reducible repeat (first | apply rA | apply rN | apply rD)); exact HO470.out) hb); replace HO474 := Aside0.mk (Kd.R_below (by (with_reducible repeat (first | apply rA | apply rN | apply rD)); exact HO474.out) hb); replace HB := Aside0.mk (below_step (by repeat (first | (with_reducible first | exact HB.out | apply bA | apply bN | apply bD) | exact HB.out)) hb); (try clear hb); (try clear hb2); (try clear hk); (try clear hi)))
      have hw64 : ∀ x : Int, IntKind.i64.wrap x = wrap64 x := by intro x; rw [IntKind.wrap_i64]; unfold wrap64; rfl
      repeat (go_quiet (first | (go_at_call 13; (with_reducible refine (impl_AreJudges.calls k _ _ t463 true _ ?side1 ?side2 A36.out).mono ?_); (case side1 => repeat (first | exact (Kd.S_reads' HO468.out).2.2 | (with_reducible first | refine cA ?_ _ | refine cN ?_ _ | refine cD ?_))); (case side2 => exact (Kd.S_reads' HO468.out).2.1); rintro e w46 ⟨rfl, hb⟩; replace HO466 := Aside0.mk (Kd.S_below (by (with_reducible repeat (first | apply sA | apply sN | apply sD)); exact HO466.out) hb); replace HO468 := Aside0.mk (Kd.S_below (by (with_reducible repeat (first | apply sA | apply sN | apply sD)); exact HO468.out) hb); replace HO470 := Aside0.mk (Kd.R_below (by (with_reducible repeat (first | apply rA | apply rN | apply rD)); exact HO470.out) hb); replace HO474 := Aside0.mk (Kd.R_below (by (with_reducible repeat (first | apply rA | apply rN | apply rD)); exact HO474.out) hb); replace HB := Aside0.mk (below_step (by repeat (first | (with_reducible first | exact HB.out | apply bA | apply bN | apply bD) | exact HB.out)) hb); (try clear hb); (try clear hb2); (try clear hk); (try clear hi)) | (go_at_call 42; (with_reducible refine (impl_AreTeams.calls k _ _ t462 false _ ?side1 ?side2 A38.out).mono ?_); (case side1 => repeat (first | exact (Kd.S_reads' HO466.out).2.2 | (with_reducible first | refine cA ?_ _ | refine cN ?_ _ | refine cD ?_))); (case side2 => exact (Kd.S_reads' HO466.out).2.1); rintro e w47 ⟨rfl, hb⟩; replace HO466 := Aside0.mk (Kd.S_below (by (with_reducible repeat (first | apply sA | apply sN | apply sD)); exact HO466.out) hb); replace HO468 := Aside0.mk (Kd.S_below (by (with_reducible repeat (first | apply sA | apply sN | apply sD)); exact HO468.out) hb); replace HO470 := Aside0.mk (Kd.R_below (by (with_reducible repeat (first | apply rA | apply rN | apply rD)); exact HO470.out) hb); replace HO474 := Aside0.mk (Kd.R_below (by (with_reducible repeat (first | apply rA | apply rN | apply rD)); exact HO474.out) hb); replace HB := Aside0.mk (below_step (by repeat (first | (with_reducible first | exact HB.out | apply bA | apply bN | apply bD) | exact HB.out)) hb); (try clear hb); (try clear hb2); (try clear hk); (try clear hi))); try go_wp2)
      try clear hw64
      go_meet
      case rel => exact ⟨_, (false), (by first | rfl | (simp; done) | (simp [*]; done)), H', ⟨by first | omega | exact Nat.le_refl _⟩, ⟨by (with_reducible repeat (first | apply sA | apply sN | apply sD)); exact Kd.S_mono HO468.out (fun _ hk => hk.2)⟩, ⟨by (with_reducible repeat (first | apply rA | apply rN | apply rD)); exact HO474.out⟩, ⟨by repeat (first | (with_reducible first | exact HB.out | apply bA | apply bN | apply bD) | exact HB.out)⟩⟩
     subst c39
     have H1 : ((laws_seating.f k t462 t463 t464 ([] : List Int)).bind fun t481 => (laws_FnJudges.j0 k t463 t471 (false != t481))) = some r := by rw [if_pos rfl] at H; exact H
     clear H
     have H := H1
     clear H1
     replace H := Option.bind_eq_some_iff.mp H
     obtain ⟨t481, A400, H⟩ := H
     replace H : (laws_FnJudges.j0 k t463 t471 (false != t481)) = some r := H
     have A40 := Aside0.mk A400
     clear A400
     have H' := Aside0.mk H
     clear H
     obtain ⟨Ao41, co41, eo41⟩ := Kd.R_slice HO474.out
     subst eo41
     go_wp2_with (first | (go_at_call 13; (with_reducible refine (impl_AreJudges.calls k _ _ t463 true _ ?side1 ?side2 A36.out).mono ?_); (case side1 => repeat (first | exact (Kd.S_reads' HO468.out).2.2 | (with_reducible first | refine cA ?_ _ | refine cN ?_ _ | refine cD ?_))); (case side2 => exact (Kd.S_reads' HO468.out).2.1); rintro e w42 ⟨rfl, hb⟩; replace HO466 := Aside0.mk (Kd.S_below (by (with_reducible repeat (first | apply sA | apply sN | apply sD)); exact HO466.out) hb); replace HO468 := Aside0.mk (Kd.S_below (by (with_reducible repeat (first | apply sA | apply sN | apply sD)); exact HO468.out) hb); replace HO470 := Aside0.mk (Kd.R_below (by (with_reducible repeat (first | apply rA | apply rN | apply rD)); exact HO470.out) hb); replace HO474 := Aside0.mk (Kd.R_below (by (with_reducible repeat (first | apply rA | apply rN | apply rD)); exact HO474.out) hb); replace HB := Aside0.mk (below_step (by repeat (first | (with_reducible first | exact HB.out | apply bA | apply bN | apply bD) | exact HB.out)) hb); (try clear hb); (try clear hb2); (try clear hk); (try clear hi)) | (go_at_call 42; (with_reducible refine (impl_AreTeams.calls k _ _ t462 true _ ?side1 ?side2 A38.out).mono ?_); (case side1 => repeat (first | exact (Kd.S_reads' HO466.out).2.2 | (with_reducible first | refine cA ?_ _ | refine cN ?_ _ | refine cD ?_))); (case side2 => exact (Kd.S_reads' HO466.out).2.1); rintro e w43 ⟨rfl, hb⟩; replace HO466 := Aside0.mk (Kd.S_below (by (with_reducible repeat (first | apply sA | apply sN | apply sD)); exact HO466.out) hb); replace HO468 := Aside0.mk (Kd.S_below (by (with_reducible repeat (first | apply sA | apply sN | apply sD)); exact HO468.out) hb); replace HO470 := Aside0.mk (Kd.R_below (by (with_reducible repeat (first | apply rA | apply rN | apply rD)); exact HO470.out) hb); replace HO474 := Aside0.mk (Kd.R_below (by (with_reducible repeat (first | apply rA | apply rN | apply rD)); exact HO474.out) hb); replace HB := Aside0.mk (below_step (by repeat (first | (with_reducible first | exact HB.out | apply bA | apply bN | apply bD) | exact HB.out)) hb); (try clear hb); (try clear hb2); (try clear hk); (try clear hi)) | (go_at_call 43; (refine (laws_seating.calls k _ _ t462 _ _ t463 _ _ t464 _ _ ([] : List Int) t481 _ ?side1 ?side2 ?side3 ?side4 ?side5 ?side6 ?side7 ?side8 A40.out).mono ?_); (case side1 => repeat (first | exact (Kd.S_reads' HO466.out).2.2 | (with_reducible first | refine cA ?_ _ | refine cN ?_ _ | refine cD ?_))); (case side2 => exact (Kd.S_reads' HO466.out).2.1); (case side3 => repeat (first | exact (Kd.S_reads' HO468.out).2.2 | (with_reducible first | refine cA ?_ _ | refine cN ?_ _ | refine cD ?_))); (case side4 => exact (Kd.S_reads' HO468.out).2.1); (case side5 => repeat (first | exact (Kd.R_reads' HO470.out).2.2 | (with_reducible first | refine cA ?_ _ | refine cN ?_ _ | refine cD ?_))); (case side6 => exact (Kd.R_reads' HO470.out).2.1); (case side7 => exact Kd.C_nil _ _); (case side8 => exact Nat.le_refl _); rintro e w44 ⟨rfl, hb⟩; replace HO466 := Aside0.mk (Kd.S_below (by (with_reducible repeat (first | apply sA | apply sN | apply sD)); exact HO466.out) hb); replace HO468 := Aside0.mk (Kd.S_below (by (with_reducible repeat (first | apply sA | apply sN | apply sD)); exact HO468.out) hb); replace HO470 := Aside0.mk (Kd.R_below (by (with_reducible repeat (first | apply rA | apply rN | apply rD)); exact HO470.out) hb); replace HO474 := Aside0.mk (Kd.R_below (by (with_reducible repeat (first | apply rA | apply rN | apply rD)); exact HO474.out) hb); replace HB := Aside0.mk (below_step (by repeat (first | (with_reducible first | exact HB.out | apply bA | apply bN | apply bD) | exact HB.out)) hb); (try clear hb); (try clear hb2); (try clear hk); (try clear hi)))
     have hw64 : ∀ x : Int, IntKind.i64.wrap x = wrap64 x := by intro x; rw [IntKind.wrap_i64]; unfold wrap64; rfl
     repeat (go_quiet (first | (go_at_call 13; (with_reducible refine (impl_AreJudges.calls k _ _ t463 true _ ?side1 ?side2 A36.out).mono ?_); (case side1 => repeat (first | exact (Kd.S_reads' HO468.out).2.2 | (with_reducible first | refine cA ?_ _ | refine cN ?_ _ | refine cD ?_))); (case side2 => exact (Kd.S_reads' HO468.out).2.1); rintro e w42 ⟨rfl, hb⟩; replace HO466 := Aside0.mk (Kd.S_below (by (with_reducible repeat (first | apply sA | apply sN | apply sD)); exact HO466.out) hb); replace HO468 := Aside0.mk (Kd.S_below (by (with_reducible repeat (first | apply sA | apply sN | apply sD)); exact HO468.out) hb); replace HO470 := Aside0.mk (Kd.R_below (by (with_reducible repeat (first | apply rA | apply rN | apply rD)); exact HO470.out) hb); replace HO474 := Aside0.mk (Kd.R_below (by (with_reducible repeat (first | apply rA | apply rN | apply rD)); exact HO474.out) hb); replace HB := Aside0.mk (below_step (by repeat (first | (with_reducible first | exact HB.out | apply bA | apply bN | apply bD) | exact HB.out)) hb); (try clear hb); (try clear hb2); (try clear hk); (try clear hi)) | (go_at_call 42; (with_reducible refine (impl_AreTeams.calls k _ _ t462 true _ ?side1 ?side2 A38.out).mono ?_); (case side1 => repeat (first | exact (Kd.S_reads' HO466.out).2.2 | (with_reducible first | refine cA ?_ _ | refine cN ?_ _ | refine cD ?_))); (case side2 => exact (Kd.S_reads' HO466.out).2.1); rintro e w43 ⟨rfl, hb⟩; replace HO466 := Aside0.mk (Kd.S_below (by (with_reducible repeat (first | apply sA | apply sN | apply sD)); exact HO466.out) hb); replace HO468 := Aside0.mk (Kd.S_below (by (with_reducible repeat (first | apply sA | apply sN | apply sD)); exact HO468.out) hb); replace HO470 := Aside0.mk (Kd.R_below (by (with_reducible repeat (first | apply rA | apply rN | apply rD)); exact HO470.out) hb); replace HO474 := Aside0.mk (Kd.R_below (by (with_reducible repeat (first | apply rA | apply rN | apply rD)); exact HO474.out) hb); replace HB := Aside0.mk (below_step (by repeat (first | (with_reducible first | exact HB.out | apply bA | apply bN | apply bD) | exact HB.out)) hb); (try clear hb); (try clear hb2); (try clear hk); (try clear hi)) | (go_at_call 43; (refine (laws_seating.calls k _ _ t462 _ _ t463 _ _ t464 _ _ ([] : List Int) t481 _ ?side1 ?side2 ?side3 ?side4 ?side5 ?side6 ?side7 ?side8 A40.out).mono ?_); (case side1 => repeat (first | exact (Kd.S_reads' HO466.out).2.2 | (with_reducible first | refine cA ?_ _ | refine cN ?_ _ | refine cD ?_))); (case side2 => exact (Kd.S_reads' HO466.out).2.1); (case side3 => repeat (first | exact (Kd.S_reads' HO468.out).2.2 | (with_reducible first | refine cA ?_ _ | refine cN ?_ _ | refine cD ?_))); (case side4 => exact (Kd.S_reads' HO468.out).2.1); (case side5 => repeat (first | exact (Kd.R_reads' HO470.out).2.2 | (with_reducible first | refine cA ?_ _ | refine cN ?_ _ | refine cD ?_))); (case side6 => exact (Kd.R_reads' HO470.out).2.1); (case side7 => exact Kd.C_nil _ _); (case side8 => exact Nat.le_refl _); rintro e w44 ⟨rfl, hb⟩; replace HO466 := Aside0.mk (Kd.S_below (by (with_reducible repeat (first | apply sA | apply sN | apply sD)); exact HO466.out) hb); replace HO468 := Aside0.mk (Kd.S_below (by (with_reducible repeat (first | apply sA | apply sN | apply sD)); exact HO468.out) hb); replace HO470 := Aside0.mk (Kd.R_below (by (with_reducible repeat (first | apply rA | apply rN | apply rD)); exact HO470.out) hb); replace HO474 := Aside0.mk (Kd.R_below (by (with_reducible repeat (first | apply rA | apply rN | apply rD)); exact HO474.out) hb); replace HB := Aside0.mk (below_step (by repeat (first | (with_reducible first | exact HB.out | apply bA | apply bN | apply bD) | exact HB.out)) hb); (try clear hb); (try clear hb2); (try clear hk); (try clear hi))); try go_wp2)
     try clear hw64
     go_meet
     case rel => exact ⟨_, ((false != t481)), (by first | rfl | (simp; done) | (simp [*]; done)), H', ⟨by first | omega | exact Nat.le_refl _⟩, ⟨by (with_reducible repeat (first | apply sA | apply sN | apply sD)); exact Kd.S_mono HO468.out (fun _ hk => hk.2)⟩, ⟨by (with_reducible repeat (first | apply rA | apply rN | apply rD)); exact HO474.out⟩, ⟨by repeat (first | (with_reducible first | exact HB.out | apply bA | apply bN | apply bD) | exact HB.out)⟩⟩
    rw [if_pos c34] at H
    have c34b0 : decide (0 < (t471.length : Int)) = true := decide_eq_true c34
    have c34b1 : decide (0 < t471.length) = true := decide_eq_true (by omega)
    clear c34
    (first | rw [c34b0] | (simp only [i64_w, i32_w]; rw [c34b0]) | skip)
    have H' := Aside0.mk H
    clear H
    obtain ⟨Ao35, co35, eo35⟩ := Kd.R_slice HO474.out
    subst eo35
    go_wp2
    have hw64 : ∀ x : Int, IntKind.i64.wrap x = wrap64 x := by intro x; rw [IntKind.wrap_i64]; unfold wrap64; rfl
    repeat (go_quiet (fail); try go_wp2)
    try clear hw64
    go_meet
    case rel => exact ⟨_, (true), (by first | rfl | (simp; done) | (simp [*]; done)), H', ⟨by first | omega | exact Nat.le_refl _⟩, ⟨by (with_reducible repeat (first | apply sA | apply sN | apply sD)); exact Kd.S_mono HO468.out (fun _ hk => hk.2)⟩, ⟨by (with_reducible repeat (first | apply rA | apply rN | apply rD)); exact HO474.out⟩, ⟨by repeat (first | (with_reducible first | exact HB.out | apply bA | apply bN | apply bD) | exact HB.out)⟩⟩
   subst c12
   have H1 : ((impl_AreSeated.f k t462 t463 t464 t471).bind fun t475 => (if t475 = true then ((impl_AreJudges.f k t463).bind fun t476 => (if t476 = true then ((impl_AreTeams.f k t462).bind fun t477 => (if t477 = true then ((laws_seating.f k t462 t463 t464 ([] : List Int)).bind fun t478 => (laws_FnJudges.j0 k t463 t471 (true != t478))) else (laws_FnJudges.j0 k t463 t471 false))) else (laws_FnJudges.j0 k t463 t471 false))) else (laws_FnJudges.j0 k t463 t471 true))) = some r := by rw [if_pos rfl] at H; exact H
   clear H
   have H := H1
   clear H1
   replace H := Option.bind_eq_some_iff.mp H
   obtain ⟨t475, A130, H⟩ := H
   replace H : (if t475 = true then ((impl_AreJudges.f k t463).bind fun t476 => (if t476 = true then ((impl_AreTeams.f k t462).bind fun t477 => (if t477 = true then ((laws_seating.f k t462 t463 t464 ([] : List Int)).bind fun t478 => (laws_FnJudges.j0 k t463 t471 (true != t478))) else (laws_FnJudges.j0 k t463 t471 false))) else (laws_FnJudges.j0 k t463 t471 false))) else (laws_FnJudges.j0 k t463 t471 true)) = some r := H
   have A13 := Aside0.mk A130
   clear A130
   by_cases c14 : t475 = true
   rotate_left
   ·
    replace c14 := Bool.eq_false_iff.mpr c14
    subst c14
    have H1 : (laws_FnJudges.j0 k t463 t471 true) = some r := by rw [if_neg (show ¬ (false = true) by decide)] at H; exact H
    clear H
    have H := H1
    clear H1
    have H' := Aside0.mk H
    clear H
    obtain ⟨Ao32, co32, eo32⟩ := Kd.R_slice HO474.out
    subst eo32
    go_wp2_with (first | (go_at_call 34; (with_reducible refine (impl_AreSeated.calls k _ _ t462 _ _ t463 _ _ t464 _ _ t471 false _ ?side1 ?side2 ?side3 ?side4 ?side5 ?side6 ?side7 ?side8 A13.out).mono ?_); (case side1 => repeat (first | exact (Kd.S_reads' HO466.out).2.2 | (with_reducible first | refine cA ?_ _ | refine cN ?_ _ | refine cD ?_))); (case side2 => exact (Kd.S_reads' HO466.out).2.1); (case side3 => repeat (first | exact (Kd.S_reads' HO468.out).2.2 | (with_reducible first | refine cA ?_ _ | refine cN ?_ _ | refine cD ?_))); (case side4 => exact (Kd.S_reads' HO468.out).2.1); (case side5 => repeat (first | exact (Kd.R_reads' HO470.out).2.2 | (with_reducible first | refine cA ?_ _ | refine cN ?_ _ | refine cD ?_))); (case side6 => exact (Kd.R_reads' HO470.out).2.1); (case side7 => repeat (first | exact (Kd.R_reads' HO474.out).2.2 | (with_reducible first | refine cA ?_ _ | refine cN ?_ _ | refine cD ?_))); (case side8 => exact (Kd.R_reads' HO474.out).2.1); rintro e w33 ⟨rfl, hb⟩; replace HO466 := Aside0.mk (Kd.S_below (by (with_reducible repeat (first | apply sA | apply sN | apply sD)); exact HO466.out) hb); replace HO468 := Aside0.mk (Kd.S_below (by (with_reducible repeat (first | apply sA | apply sN | apply sD)); exact HO468.out) hb); replace HO470 := Aside0.mk (Kd.R_below (by (with_reducible repeat (first | apply rA | apply rN | apply rD)); exact HO470.out) hb); replace HO474 := Aside0.mk (Kd.R_below (by (with_reducible repeat (first | apply rA | apply rN | apply rD)); exact HO474.out) hb); replace HB := Aside0.mk (below_step (by repeat (first | (with_reducible first | exact HB.out | apply bA | apply bN | apply bD) | exact HB.out)) hb); (try clear hb); (try clear hb2); (try clear hk); (try clear hi)))
    have hw64 : ∀ x : Int, IntKind.i64.wrap x = wrap64 x := by intro x; rw [IntKind.wrap_i64]; unfold wrap64; rfl
    repeat (go_quiet (first | (go_at_call 34; (with_reducible refine (impl_AreSeated.calls k _ _ t462 _ _ t463 _ _ t464 _ _ t471 false _ ?side1 ?side2 ?side3 ?side4 ?side5 ?side6 ?side7 ?side8 A13.out).mono ?_); (case side1 => repeat (first | exact (Kd.S_reads' HO466.out).2.2 | (with_reducible first | refine cA ?_ _ | refine cN ?_ _ | refine cD ?_))); (case side2 => exact (Kd.S_reads' HO466.out).2.1); (case side3 => repeat (first | exact (Kd.S_reads' HO468.out).2.2 | (with_reducible first | refine cA ?_ _ | refine cN ?_ _ | refine cD ?_))); (case side4 => exact (Kd.S_reads' HO468.out).2.1); (case side5 => repeat (first | exact (Kd.R_reads' HO470.out).2.2 | (with_reducible first | refine cA ?_ _ | refine cN ?_ _ | refine cD ?_))); (case side6 => exact (Kd.R_reads' HO470.out).2.1); (case side7 => repeat (first | exact (Kd.R_reads' HO474.out).2.2 | (with_reducible first | refine cA ?_ _ | refine cN ?_ _ | refine cD ?_))); (case side8 => exact (Kd.R_reads' HO474.out).2.1); rintro e w33 ⟨rfl, hb⟩; replace HO466 := Aside0.mk (Kd.S_below (by (with_reducible repeat (first | apply sA | apply sN | apply sD)); exact HO466.out) hb); replace HO468 := Aside0.mk (Kd.S_below (by (with_reducible repeat (first | apply sA | apply sN | apply sD)); exact HO468.out) hb); replace HO470 := Aside0.mk (Kd.R_below (by (with_reducible repeat (first | apply rA | apply rN | apply rD)); exact HO470.out) hb); replace HO474 := Aside0.mk (Kd.R_below (by (with_reducible repeat (first | apply rA | apply rN | apply rD)); exact HO474.out) hb); replace HB := Aside0.mk (below_step (by repeat (first | (with_reducible first | exact HB.out | apply bA | apply bN | apply bD) | exact HB.out)) hb); (try clear hb); (try clear hb2); (try clear hk); (try clear hi))); try go_wp2)
    try clear hw64
    go_meet
    case rel => exact ⟨_, (true), (by first | rfl | (simp; done) | (simp [*]; done)), H', ⟨by first | omega | exact Nat.le_refl _⟩, ⟨by (with_reducible repeat (first | apply sA | apply sN | apply sD)); exact Kd.S_mono HO468.out (fun _ hk => hk.2)⟩, ⟨by (with_reducible repeat (first | apply rA | apply rN | apply rD)); exact HO474.out⟩, ⟨by repeat (first | (with_reducible first | exact HB.out | apply bA | apply bN | apply bD) | exact HB.out)⟩⟩
   subst c14
   have H1 : ((impl_AreJudges.f k t463).bind fun t476 => (if t476 = true then ((impl_AreTeams.f k t462).bind fun t477 => (if t477 = true then ((laws_seating.f k t462 t463 t464 ([] : List Int)).bind fun t478 => (laws_FnJudges.j0 k t463 t471 (true != t478))) else (laws_FnJudges.j0 k t463 t471 false))) else (laws_FnJudges.j0 k t463 t471 false))) = some r := by rw [if_pos rfl] at H; exact H
   clear H
   have H := H1
   clear H1
   replace H := Option.bind_eq_some_iff.mp H
   obtain ⟨t476, A150, H⟩ := H
   replace H : (if t476 = true then ((impl_AreTeams.f k t462).bind fun t477 => (if t477 = true then ((laws_seating.f k t462 t463 t464 ([] : List Int)).bind fun t478 => (laws_FnJudges.j0 k t463 t471 (true != t478))) else (laws_FnJudges.j0 k t463 t471 false))) else (laws_FnJudges.j0 k t463 t471 false)) = some r := H
   have A15 := Aside0.mk A150
   clear A150
   by_cases c16 : t476 = true
   rotate_left
   ·
    replace c16 := Bool.eq_false_iff.mpr c16
    subst c16
    have H1 : (laws_FnJudges.j0 k t463 t471 false) = some r := by rw [if_neg (show ¬ (false = true) by decide)] at H; exact H
    clear H
    have H := H1
    clear H1
    have H' := Aside0.mk H
    clear H
    obtain ⟨Ao29, co29, eo29⟩ := Kd.R_slice HO474.out
    subst eo29
    go_wp2_with (first | (go_at_call 34; (with_reducible refine (impl_AreSeated.calls k _ _ t462 _ _ t463 _ _ t464 _ _ t471 true _ ?side1 ?side2 ?side3 ?side4 ?side5 ?side6 ?side7 ?side8 A13.out).mono ?_); (case side1 => repeat (first | exact (Kd.S_reads' HO466.out).2.2 | (with_reducible first | refine cA ?_ _ | refine cN ?_ _ | refine cD ?_))); (case side2 => exact (Kd.S_reads' HO466.out).2.1); (case side3 => repeat (first | exact (Kd.S_reads' HO468.out).2.2 | (with_reducible first | refine cA ?_ _ | refine cN ?_ _ | refine cD ?_))); (case side4 => exact (Kd.S_reads' HO468.out).2.1); (case side5 => repeat (first | exact (Kd.R_reads' HO470.out).2.2 | (with_reducible first | refine cA ?_ _ | refine cN ?_ _ | refine cD ?_))); (case side6 => exact (Kd.R_reads' HO470.out).2.1); (case side7 => repeat (first | exact (Kd.R_reads' HO474.out).2.2 | (with_reducible first | refine cA ?_ _ | refine cN ?_ _ | refine cD ?_))); (case side8 => exact (Kd.R_reads' HO474.out).2.1); rintro e w30 ⟨rfl, hb⟩; replace HO466 := Aside0.mk (Kd.S_below (by (with_reducible repeat (first | apply sA | apply sN | apply sD)); exact HO466.out) hb); replace HO468 := Aside0.mk (Kd.S_below (by (with_reducible repeat (first | apply sA | apply sN | apply sD)); exact HO468.out) hb); replace HO470 := Aside0.mk (Kd.R_below (by (with_reducible repeat (first | apply rA | apply rN | apply rD)); exact HO470.out) hb); replace HO474 := Aside0.mk (Kd.R_below (by (with_reducible repeat (first | apply rA | apply rN | apply rD)); exact HO474.out) hb); replace HB := Aside0.mk (below_step (by repeat (first | (with_reducible first | exact HB.out | apply bA | apply bN | apply bD) | exact HB.out)) hb); (try clear hb); (try clear hb2); (try clear hk); (try clear hi)) | (go_at_call 13; (with_reducible refine (impl_AreJudges.calls k _ _ t463 false _ ?side1 ?side2 A15.out).mono ?_); (case side1 => repeat (first | exact (Kd.S_reads' HO468.out).2.2 | (with_reducible first | refine cA ?_ _ | refine cN ?_ _ | refine cD ?_))); (case side2 => exact (Kd.S_reads' HO468.out).2.1); rintro e w31 ⟨rfl, hb⟩; replace HO466 := Aside0.mk (Kd.S_below (by (with_reducible repeat (first | apply sA | apply sN | apply sD)); exact HO466.out) hb); replace HO468 := Aside0.mk (Kd.S_below (by (with_reducible repeat (first | apply sA | apply sN | apply sD)); exact HO468.out) hb); replace HO470 := Aside0.mk (Kd.R_below (by (with_reducible repeat (first | apply rA | apply rN | apply rD)); exact HO470.out) hb); replace HO474 := Aside0.mk (Kd.R_below (by (with_reducible repeat (first | apply rA | apply rN | apply rD)); exact HO474.out) hb); replace HB := Aside0.mk (below_step (by repeat (first | (with_reducible first | exact HB.out | apply bA | apply bN | apply bD) | exact HB.out)) hb); (try clear hb); (try clear hb2); (try clear hk); (try clear hi)))
    have hw64 : ∀ x : Int, IntKind.i64.wrap x = wrap64 x := by intro x; rw [IntKind.wrap_i64]; unfold wrap64; rfl
    repeat (go_quiet (first | (go_at_call 34; (with_reducible refine (impl_AreSeated.calls k _ _ t462 _ _ t463 _ _ t464 _ _ t471 true _ ?side1 ?side2 ?side3 ?side4 ?side5 ?side6 ?side7 ?side8 A13.out).mono ?_); (case side1 => repeat (first | exact (Kd.S_reads' HO466.out).2.2 | (with_reducible first | refine cA ?_ _ | refine cN ?_ _ | refine cD ?_))); (case side2 => exact (Kd.S_reads' HO466.out).2.1); (case side3 => repeat (first | exact (Kd.S_reads' HO468.out).2.2 | (with_reducible first | refine cA ?_ _ | refine cN ?_ _ | refine cD ?_))); (case side4 => exact (Kd.S_reads' HO468.out).2.1); (case side5 => repeat (first | exact (Kd.R_reads' HO470.out).2.2 | (with_reducible first | refine cA ?_ _ | refine cN ?_ _ | refine cD ?_))); (case side6 => exact (Kd.R_reads' HO470.out).2.1); (case side7 => repeat (first | exact (Kd.R_reads' HO474.out).2.2 | (with_reducible first | refine cA ?_ _ | refine cN ?_ _ | refine cD ?_))); (case side8 => exact (Kd.R_reads' HO474.out).2.1); rintro e w30 ⟨rfl, hb⟩; replace HO466 := Aside0.mk (Kd.S_below (by (with_reducible repeat (first | apply sA | apply sN | apply sD)); exact HO466.out) hb); replace HO468 := Aside0.mk (Kd.S_below (by (with_reducible repeat (first | apply sA | apply sN | apply sD)); exact HO468.out) hb); replace HO470 := Aside0.mk (Kd.R_below (by (with_reducible repeat (first | apply rA | apply rN | apply rD)); exact HO470.out) hb); replace HO474 := Aside0.mk (Kd.R_below (by (with_reducible repeat (first | apply rA | apply rN | apply rD)); exact HO474.out) hb); replace HB := Aside0.mk (below_step (by repeat (first | (with_reducible first | exact HB.out | apply bA | apply bN | apply bD) | exact HB.out)) hb); (try clear hb); (try clear hb2); (try clear hk); (try clear hi)) | (go_at_call 13; (with_reducible refine (impl_AreJudges.calls k _ _ t463 false _ ?side1 ?side2 A15.out).mono ?_); (case side1 => repeat (first | exact (Kd.S_reads' HO468.out).2.2 | (with_reducible first | refine cA ?_ _ | refine cN ?_ _ | refine cD ?_))); (case side2 => exact (Kd.S_reads' HO468.out).2.1); rintro e w31 ⟨rfl, hb⟩; replace HO466 := Aside0.mk (Kd.S_below (by (with_reducible repeat (first | apply sA | apply sN | apply sD)); exact HO466.out) hb); replace HO468 := Aside0.mk (Kd.S_below (by (with_reducible repeat (first | apply sA | apply sN | apply sD)); exact HO468.out) hb); replace HO470 := Aside0.mk (Kd.R_below (by (with_reducible repeat (first | apply rA | apply rN | apply rD)); exact HO470.out) hb); replace HO474 := Aside0.mk (Kd.R_below (by (with_reducible repeat (first | apply rA | apply rN | apply rD)); exact HO474.out) hb); replace HB := Aside0.mk (below_step (by repeat (first | (with_reducible first | exact HB.out | apply bA | apply bN | apply bD) | exact HB.out)) hb); (try clear hb); (try clear hb2); (try clear hk); (try clear hi))); try go_wp2)
    try clear hw64
    go_meet
    case rel => exact ⟨_, (false), (by first | rfl | (simp; done) | (simp [*]; done)), H', ⟨by first | omega | exact Nat.le_refl _⟩, ⟨by (with_reducible repeat (first | apply sA | apply sN | apply sD)); exact Kd.S_mono HO468.out (fun _ hk => hk.2)⟩, ⟨by (with_reducible repeat (first | apply rA | apply rN | apply rD)); exact HO474.out⟩, ⟨by repeat (first | (with_reducible first | exact HB.out | apply bA | apply bN | apply bD) | exact HB.out)⟩⟩
   subst c16
   have H1 : ((impl_AreTeams.f k t462).bind fun t477 => (if t477 = true then ((laws_seating.f k t462 t463 t464 ([] : List Int)).bind fun t478 => (laws_FnJudges.j0 k t463 t471 (true != t478))) else (laws_FnJudges.j0 k t463 t471 false))) = some r := by rw [if_pos rfl] at H; exact H
   clear H
   have H := H1
   clear H1
   replace H := Option.bind_eq_some_iff.mp H
   obtain ⟨t477, A170, H⟩ := H
   replace H : (if t477 = true then ((laws_seating.f k t462 t463 t464 ([] : List Int)).bind fun t478 => (laws_FnJudges.j0 k t463 t471 (true != t478))) else (laws_FnJudges.j0 k t463 t471 false)) = some r := H
   have A17 := Aside0.mk A170
   clear A170
   by_cases c18 : t477 = true
   rotate_left
   ·
    replace c18 := Bool.eq_false_iff.mpr c18
    subst c18
    have H1 : (laws_FnJudges.j0 k t463 t471 false) = some r := by rw [if_neg (show ¬ (false = true) by decide)] at H; exact H
    clear H
    have H := H1
    clear H1
    have H' := Aside0.mk H
    clear H
    obtain ⟨Ao25, co25, eo25⟩ := Kd.R_slice HO474.out
    subst eo25
    go_wp2_with (first | (go_at_call 34; (with_reducible refine (impl_AreSeated.calls k _ _ t462 _ _ t463 _ _ t464 _ _ t471 true _ ?side1 ?side2 ?side3 ?side4 ?side5 ?side6 ?side7 ?side8 A13.out).mono ?_); (case side1 => repeat (first | exact (Kd.S_reads' HO466.out).2.2 | (with_reducible first | refine cA ?_ _ | refine cN ?_ _ | refine cD ?_))); (case side2 => exact (Kd.S_reads' HO466.out).2.1); (case side3 => repeat (first | exact (Kd.S_reads' HO468.out).2.2 | (with_reducible first | refine cA ?_ _ | refine cN ?_ _ | refine cD ?_))); (case side4 => exact (Kd.S_reads' HO468.out).2.1); (case side5 => repeat (first | exact (Kd.R_reads' HO470.out).2.2 | (with_reducible first | refine cA ?_ _ | refine cN ?_ _ | refine cD ?_))); (case side6 => exact (Kd.R_reads' HO470.out).2.1); (case side7 => repeat (first | exact (Kd.R_reads' HO474.out).2.2 | (with_reducible first | refine cA ?_ _ | refine cN ?_ _ | refine cD ?_))); (case side8 => exact (Kd.R_reads' HO474.out).2.1); rintro e w26 ⟨rfl, hb⟩; replace HO466 := Aside0.mk (Kd.S_below (by (with_reducible repeat (first | apply sA | apply sN | apply sD)); exact HO466.out) hb); replace HO468 := Aside0.mk (Kd.S_below (by (with_reducible repeat (first | apply sA | apply sN | apply sD)); exact HO468.out) hb); replace HO470 := Aside0.mk (Kd.R_below (by (with_reducible repeat (first | apply rA | apply rN | apply rD)); exact HO470.out) hb); replace HO474 := Aside0.mk (Kd.R_below (by (with_reducible repeat (first | apply rA | apply rN | apply rD)); exact HO474.out) hb); replace HB := Aside0.mk (below_step (by repeat (first | (with_reducible first | exact HB.out | apply bA | apply bN | apply bD) | exact HB.out)) hb); (try clear hb); (try clear hb2); (try clear hk); (try clear hi)) | (go_at_call 13; (with_reducible refine (impl_AreJudges.calls k _ _ t463 true _ ?side1 ?side2 A15.out).mono ?_); (case side1 => repeat (first | exact (Kd.S_reads' HO468.out).2.2 | (with_reducible first | refine cA ?_ _ | refine cN ?_ _ | refine cD ?_))); (case side2 => exact (Kd.S_reads' HO468.out).2.1); rintro e w27 ⟨rfl, hb⟩; replace HO466 := Aside0.mk (Kd.S_below (by (with_reducible repeat (first | apply sA | apply sN | apply sD)); exact HO466.out) hb); replace HO468 := Aside0.mk (Kd.S_below (by (with_reducible repeat (first | apply sA | apply sN | apply sD)); exact HO468.out) hb); replace HO470 := Aside0.mk (Kd.R_below (by (with_reducible repeat (first | apply rA | apply rN | apply rD)); exact HO470.out) hb); replace HO474 := Aside0.mk (Kd.R_below (by (with_reducible repeat (first | apply rA | apply rN | apply rD)); exact HO474.out) hb); replace HB := Aside0.mk (below_step (by repeat (first | (with_reducible first | exact HB.out | apply bA | apply bN | apply bD) | exact HB.out)) hb); (try clear hb); (try clear hb2); (try clear hk); (try clear hi)) | (go_at_call 42; (with_reducible refine (impl_AreTeams.calls k _ _ t462 false _ ?side1 ?side2 A17.out).mono ?_); (case side1 => repeat (first | exact (Kd.S_reads' HO466.out).2.2 | (with_reducible first | refine cA ?_ _ | refine cN ?_ _ | refine cD ?_))); (case side2 => exact (Kd.S_reads' HO466.out).2.1); rintro e w28 ⟨rfl, hb⟩; replace HO466 := Aside0.mk (Kd.S_below (by (with_reducible repeat (first | apply sA | apply sN | apply sD)); exact HO466.out) hb); replace HO468 := Aside0.mk (Kd.S_below (by (with_reducible repeat (first | apply sA | apply sN | apply sD)); exact HO468.out) hb); replace HO470 := Aside0.mk (Kd.R_below (by (with_reducible repeat (first | apply rA | apply rN | apply rD)); exact HO470.out) hb); replace HO474 := Aside0.mk (Kd.R_below (by (with_reducible repeat (first | apply rA | apply rN | apply rD)); exact HO474.out) hb); replace HB := Aside0.mk (below_step (by repeat (first | (with_reducible first | exact HB.out | apply bA | apply bN | apply bD) | exact HB.out)) hb); (try clear hb); (try clear hb2); (try clear hk); (try clear hi)))
    have hw64 : ∀ x : Int, IntKind.i64.wrap x = wrap64 x := by intro x; rw [IntKind.wrap_i64]; unfold wrap64; rfl
    repeat (go_quiet (first | (go_at_call 34; (with_reducible refine (impl_AreSeated.calls k _ _ t462 _ _ t463 _ _ t464 _ _ t471 true _ ?side1 ?side2 ?side3 ?side4 ?side5 ?side6 ?side7 ?side8 A13.out).mono ?_); (case side1 => repeat (first | exact (Kd.S_reads' HO466.out).2.2 | (with_reducible first | refine cA ?_ _ | refine cN ?_ _ | refine cD ?_))); (case side2 => exact (Kd.S_reads' HO466.out).2.1); (case side3 => repeat (first | exact (Kd.S_reads' HO468.out).2.2 | (with_reducible first | refine cA ?_ _ | refine cN ?_ _ | refine cD ?_))); (case side4 => exact (Kd.S_reads' HO468.out).2.1); (case side5 => repeat (first | exact (Kd.R_reads' HO470.out).2.2 | (with_reducible first | refine cA ?_ _ | refine cN ?_ _ | refine cD ?_))); (case side6 => exact (Kd.R_reads' HO470.out).2.1); (case side7 => repeat (first | exact (Kd.R_reads' HO474.out).2.2 | (with_reducible first | refine cA ?_ _ | refine cN ?_ _ | refine cD ?_))); (case side8 => exact (Kd.R_reads' HO474.out).2.1); rintro e w26 ⟨rfl, hb⟩; replace HO466 := Aside0.mk (Kd.S_below (by (with_reducible repeat (first | apply sA | apply sN | apply sD)); exact HO466.out) hb); replace HO468 := Aside0.mk (Kd.S_below (by (with_reducible repeat (first | apply sA | apply sN | apply sD)); exact HO468.out) hb); replace HO470 := Aside0.mk (Kd.R_below (by (with_reducible repeat (first | apply rA | apply rN | apply rD)); exact HO470.out) hb); replace HO474 := Aside0.mk (Kd.R_below (by (with_reducible repeat (first | apply rA | apply rN | apply rD)); exact HO474.out) hb); replace HB := Aside0.mk (below_step (by repeat (first | (with_reducible first | exact HB.out | apply bA | apply bN | apply bD) | exact HB.out)) hb); (try clear hb); (try clear hb2); (try clear hk); (try clear hi)) | (go_at_call 13; (with_reducible refine (impl_AreJudges.calls k _ _ t463 true _ ?side1 ?side2 A15.out).mono ?_); (case side1 => repeat (first | exact (Kd.S_reads' HO468.out).2.2 | (with_reducible first | refine cA ?_ _ | refine cN ?_ _ | refine cD ?_))); (case side2 => exact (Kd.S_reads' HO468.out).2.1); rintro e w27 ⟨rfl, hb⟩; replace HO466 := Aside0.mk (Kd.S_below (by (with_reducible repeat (first | apply sA | apply sN | apply sD)); exact HO466.out) hb); replace HO468 := Aside0.mk (Kd.S_below (by (with_reducible repeat (first | apply sA | apply sN | apply sD)); exact HO468.out) hb); replace HO470 := Aside0.mk (Kd.R_below (by (with_reducible repeat (first | apply rA | apply rN | apply rD)); exact HO470.out) hb); replace HO474 := Aside0.mk (Kd.R_below (by (with_reducible repeat (first | apply rA | apply rN | apply rD)); exact HO474.out) hb); replace HB := Aside0.mk (below_step (by repeat (first | (with_reducible first | exact HB.out | apply bA | apply bN | apply bD) | exact HB.out)) hb); (try clear hb); (try clear hb2); (try clear hk); (try clear hi)) | (go_at_call 42; (with_reducible refine (impl_AreTeams.calls k _ _ t462 false _ ?side1 ?side2 A17.out).mono ?_); (case side1 => repeat (first | exact (Kd.S_reads' HO466.out).2.2 | (with_reducible first | refine cA ?_ _ | refine cN ?_ _ | refine cD ?_))); (case side2 => exact (Kd.S_reads' HO466.out).2.1); rintro e w28 ⟨rfl, hb⟩; replace HO466 := Aside0.mk (Kd.S_below (by (with_reducible repeat (first | apply sA | apply sN | apply sD)); exact HO466.out) hb); replace HO468 := Aside0.mk (Kd.S_below (by (with_reducible repeat (first | apply sA | apply sN | apply sD)); exact HO468.out) hb); replace HO470 := Aside0.mk (Kd.R_below (by (with_reducible repeat (first | apply rA | apply rN | apply rD)); exact HO470.out) hb); replace HO474 := Aside0.mk (Kd.R_below (by (with_reducible repeat (first | apply rA | apply rN | apply rD)); exact HO474.out) hb); replace HB := Aside0.mk (below_step (by repeat (first | (with_reducible first | exact HB.out | apply bA | apply bN | apply bD) | exact HB.out)) hb); (try clear hb); (try clear hb2); (try clear hk); (try clear hi))); try go_wp2)
    try clear hw64
    go_meet
    case rel => exact ⟨_, (false), (by first | rfl | (simp; done) | (simp [*]; done)), H', ⟨by first | omega | exact Nat.le_refl _⟩, ⟨by (with_reducible repeat (first | apply sA | apply sN | apply sD)); exact Kd.S_mono HO468.out (fun _ hk => hk.2)⟩, ⟨by (with_reducible repeat (first | apply rA | apply rN | apply rD)); exact HO474.out⟩, ⟨by repeat (first | (with_reducible first | exact HB.out | apply bA | apply bN | apply bD) | exact HB.out)⟩⟩
   subst c18
   have H1 : ((laws_seating.f k t462 t463 t464 ([] : List Int)).bind fun t478 => (laws_FnJudges.j0 k t463 t471 (true != t478))) = some r := by rw [if_pos rfl] at H; exact H
   clear H
   have H := H1
   clear H1
   replace H := Option.bind_eq_some_iff.mp H
   obtain ⟨t478, A190, H⟩ := H
   replace H : (laws_FnJudges.j0 k t463 t471 (true != t478)) = some r := H
   have A19 := Aside0.mk A190
   clear A190
   have H' := Aside0.mk H
   clear H
   obtain ⟨Ao20, co20, eo20⟩ := Kd.R_slice HO474.out
   subst eo20
   go_wp2_with (first | (go_at_call 34; (with_reducible refine (impl_AreSeated.calls k _ _ t462 _ _ t463 _ _ t464 _ _ t471 true _ ?side1 ?side2 ?side3 ?side4 ?side5 ?side6 ?side7 ?side8 A13.out).mono ?_); (case side1 => repeat (first | exact (Kd.S_reads' HO466.out).2.2 | (with_reducible first | refine cA ?_ _ | refine cN ?_ _ | refine cD ?_))); (case side2 => exact (Kd.S_reads' HO466.out).2.1); (case side3 => repeat (first | exact (Kd.S_reads' HO468.out).2.2 | (with_reducible first | refine cA ?_ _ | refine cN ?_ _ | refine cD ?_))); (case side4 => exact (Kd.S_reads' HO468.out).2.1); (case side5 => repeat (first | exact (Kd.R_reads' HO470.out).2.2 | (with_reducible first | refine cA ?_ _ | refine cN ?_ _ | refine cD ?_))); (case side6 => exact (Kd.R_reads' HO470.out).2.1); (case side7 => repeat (first | exact (Kd.R_reads' HO474.out).2.2 | (with_reducible first | refine cA ?_ _ | refine cN ?_ _ | refine cD ?_))); (case side8 => exact (Kd.R_reads' HO474.out).2.1); rintro e w21 ⟨rfl, hb⟩; replace HO466 := Aside0.mk (Kd.S_below (by (with_reducible repeat (first | apply sA | apply sN | apply sD)); exact HO466.out) hb); replace HO468 := Aside0.mk (Kd.S_below (by (with_reducible repeat (first | apply sA | apply sN | apply sD)); exact HO468.out) hb); replace HO470 := Aside0.mk (Kd.R_below (by (with_reducible repeat (first | apply rA | apply rN | apply rD)); exact HO470.out) hb); replace HO474 := Aside0.mk (Kd.R_below (by (with_reducible repeat (first | apply rA | apply rN | apply rD)); exact HO474.out) hb); replace HB := Aside0.mk (below_step (by repeat (first | (with_reducible first | exact HB.out | apply bA | apply bN | apply bD) | exact HB.out)) hb); (try clear hb); (try clear hb2); (try clear hk); (try clear hi)) | (go_at_call 13; (with_reducible refine (impl_AreJudges.calls k _ _ t463 true _ ?side1 ?side2 A15.out).mono ?_); (case side1 => repeat (first | exact (Kd.S_reads' HO468.out).2.2 | (with_reducible first | refine cA ?_ _ | refine cN ?_ _ | refine cD ?_))); (case side2 => exact (Kd.S_reads' HO468.out).2.1); rintro e w22 ⟨rfl, hb⟩; replace HO466 := Aside0.mk (Kd.S_below (by (with_reducible repeat (first | apply sA | apply sN | apply sD)); exact HO466.out) hb); replace HO468 := Aside0.mk (Kd.S_below (by (with_reducible repeat (first | apply sA | apply sN | apply sD)); exact HO468.out) hb); replace HO470 := Aside0.mk (Kd.R_below (by (with_reducible repeat (first | apply rA | apply rN | apply rD)); exact HO470.out) hb); replace HO474 := Aside0.mk (Kd.R_below (by (with_reducible repeat (first | apply rA | apply rN | apply rD)); exact HO474.out) hb); replace HB := Aside0.mk (below_step (by repeat (first | (with_reducible first | exact HB.out | apply bA | apply bN | apply bD) | exact HB.out)) hb); (try clear hb); (try clear hb2); (try clear hk); (try clear hi)) | (go_at_call 42; (with_reducible refine (impl_AreTeams.calls k _ _ t462 true _ ?side1 ?side2 A17.out).mono ?_); (case side1 => repeat (first | exact (Kd.S_reads' HO466.out).2.2 | (with_reducible first | refine cA ?_ _ | refine cN ?_ _ | refine cD ?_))); (case side2 => exact (Kd.S_reads' HO466.out).2.1); rintro e w23 ⟨rfl, hb⟩; replace HO466 := Aside0.mk (Kd.S_below (by (with_reducible repeat (first | apply sA | apply sN | apply sD)); exact HO466.out) hb); replace HO468 := Aside0.mk (Kd.S_below (by (with_reducible repeat (first | apply sA | apply sN | apply sD)); exact HO468.out) hb); replace HO470 := Aside0.mk (Kd.R_below (by (with_reducible repeat (first | apply rA | apply rN | apply rD)); exact HO470.out) hb); replace HO474 := Aside0.mk (Kd.R_below (by (with_reducible repeat (first | apply rA | apply rN | apply rD)); exact HO474.out) hb); replace HB := Aside0.mk (below_step (by repeat (first | (with_reducible first | exact HB.out | apply bA | apply bN | apply bD) | exact HB.out)) hb); (try clear hb); (try clear hb2); (try clear hk); (try clear hi)) | (go_at_call 43; (refine (laws_seating.calls k _ _ t462 _ _ t463 _ _ t464 _ _ ([] : List Int) t478 _ ?side1 ?side2 ?side3 ?side4 ?side5 ?side6 ?side7 ?side8 A19.out).mono ?_); (case side1 => repeat (first | exact (Kd.S_reads' HO466.out).2.2 | (with_reducible first | refine cA ?_ _ | refine cN ?_ _ | refine cD ?_))); (case side2 => exact (Kd.S_reads' HO466.out).2.1); (case side3 => repeat (first | exact (Kd.S_reads' HO468.out).2.2 | (with_reducible first | refine cA ?_ _ | refine cN ?_ _ | refine cD ?_))); (case side4 => exact (Kd.S_reads' HO468.out).2.1); (case side5 => repeat (first | exact (Kd.R_reads' HO470.out).2.2 | (with_reducible first | refine cA ?_ _ | refine cN ?_ _ | refine cD ?_))); (case side6 => exact (Kd.R_reads' HO470.out).2.1); (case side7 => exact Kd.C_nil _ _); (case side8 => exact Nat.le_refl _); rintro e w24 ⟨rfl, hb⟩; replace HO466 := Aside0.mk (Kd.S_below (by (with_reducible repeat (first | apply sA | apply sN | apply sD)); exact HO466.out) hb); replace HO468 := Aside0.mk (Kd.S_below (by (with_reducible repeat (first | apply sA | apply sN | apply sD)); exact HO468.out) hb); replace HO470 := Aside0.mk (Kd.R_below (by (with_reducible repeat (first | apply rA | apply rN | apply rD)); exact HO470.out) hb); replace HO474 := Aside0.mk (Kd.R_below (by (with_reducible repeat (first | apply rA | apply rN | apply rD)); exact HO474.out) hb); replace HB := Aside0.mk (below_step (by repeat (first | (with_reducible first | exact HB.out | apply bA | apply bN | apply bD) | exact HB.out)) hb); (try clear hb); (try clear hb2); (try clear hk); (try clear hi)))
   have hw64 : ∀ x : Int, IntKind.i64.wrap x = wrap64 x := by intro x; rw [IntKind.wrap_i64]; unfold wrap64; rfl
   repeat (go_quiet (first | (go_at_call 34; (with_reducible refine (impl_AreSeated.calls k _ _ t462 _ _ t463 _ _ t464 _ _ t471 true _ ?side1 ?side2 ?side3 ?side4 ?side5 ?side6 ?side7 ?side8 A13.out).mono ?_); (case side1 => repeat (first | exact (Kd.S_reads' HO466.out).2.2 | (with_reducible first | refine cA ?_ _ | refine cN ?_ _ | refine cD ?_))); (case side2 => exact (Kd.S_reads' HO466.out).2.1); (case side3 => repeat (first | exact (Kd.S_reads' HO468.out).2.2 | (with_reducible first | refine cA ?_ _ | refine cN ?_ _ | refine cD ?_))); (case side4 => exact (Kd.S_reads' HO468.out).2.1); (case side5 => repeat (first | exact (Kd.R_reads' HO470.out).2.2 | (with_reducible first | refine cA ?_ _ | refine cN ?_ _ | refine cD ?_))); (case side6 => exact (Kd.R_reads' HO470.out).2.1); (case side7 => repeat (first | exact (Kd.R_reads' HO474.out).2.2 | (with_reducible first | refine cA ?_ _ | refine cN ?_ _ | refine cD ?_))); (case side8 => exact (Kd.R_reads' HO474.out).2.1); rintro e w21 ⟨rfl, hb⟩; replace HO466 := Aside0.mk (Kd.S_below (by (with_reducible repeat (first | apply sA | apply sN | apply sD)); exact HO466.out) hb); replace HO468 := Aside0.mk (Kd.S_below (by (with_reducible repeat (first | apply sA | apply sN | apply sD)); exact HO468.out) hb); replace HO470 := Aside0.mk (Kd.R_below (by (with_reducible repeat (first | apply rA | apply rN | apply rD)); exact HO470.out) hb); replace HO474 := Aside0.mk (Kd.R_below (by (with_reducible repeat (first | apply rA | apply rN | apply rD)); exact HO474.out) hb); replace HB := Aside0.mk (below_step (by repeat (first | (with_reducible first | exact HB.out | apply bA | apply bN | apply bD) | exact HB.out)) hb); (try clear hb); (try clear hb2); (try clear hk); (try clear hi)) | (go_at_call 13; (with_reducible refine (impl_AreJudges.calls k _ _ t463 true _ ?side1 ?side2 A15.out).mono ?_); (case side1 => repeat (first | exact (Kd.S_reads' HO468.out).2.2 | (with_reducible first | refine cA ?_ _ | refine cN ?_ _ | refine cD ?_))); (case side2 => exact (Kd.S_reads' HO468.out).2.1); rintro e w22 ⟨rfl, hb⟩; replace HO466 := Aside0.mk (Kd.S_below (by (with_reducible repeat (first | apply sA | apply sN | apply sD)); exact HO466.out) hb); replace HO468 := Aside0.mk (Kd.S_below (by (with_reducible repeat (first | apply sA | apply sN | apply sD)); exact HO468.out) hb); replace HO470 := Aside0.mk (Kd.R_below (by (with_reducible repeat (first | apply rA | apply rN | apply rD)); exact HO470.out) hb); replace HO474 := Aside0.mk (Kd.R_below (by (with_reducible repeat (first | apply rA | apply rN | apply rD)); exact HO474.out) hb); replace HB := Aside0.mk (below_step (by repeat (first | (with_reducible first | exact HB.out | apply bA | apply bN | apply bD) | exact HB.out)) hb); (try clear hb); (try clear hb2); (try clear hk); (try clear hi)) | (go_at_call 42; (with_reducible refine (impl_AreTeams.calls k _ _ t462 true _ ?side1 ?side2 A17.out).mono ?_); (case side1 => repeat (first | exact (Kd.S_reads' HO466.out).2.2 | (with_reducible first | refine cA ?_ _ | refine cN ?_ _ | refine cD ?_))); (case side2 => exact (Kd.S_reads' HO466.out).2.1); rintro e w23 ⟨rfl, hb⟩; replace HO466 := Aside0.mk (Kd.S_below (by (with_reducible repeat (first | apply sA | apply sN | apply sD)); exact HO466.out) hb); replace HO468 := Aside0.mk (Kd.S_below (by (with_reducible repeat (first | apply sA | apply sN | apply sD)); exact HO468.out) hb); replace HO470 := Aside0.mk (Kd.R_below (by (with_reducible repeat (first | apply rA | apply rN | apply rD)); exact HO470.out) hb); replace HO474 := Aside0.mk (Kd.R_below (by (with_reducible repeat (first | apply rA | apply rN | apply rD)); exact HO474.out) hb); replace HB := Aside0.mk (below_step (by repeat (first | (with_reducible first | exact HB.out | apply bA | apply bN | apply bD) | exact HB.out)) hb); (try clear hb); (try clear hb2); (try clear hk); (try clear hi)) | (go_at_call 43; (refine (laws_seating.calls k _ _ t462 _ _ t463 _ _ t464 _ _ ([] : List Int) t478 _ ?side1 ?side2 ?side3 ?side4 ?side5 ?side6 ?side7 ?side8 A19.out).mono ?_); (case side1 => repeat (first | exact (Kd.S_reads' HO466.out).2.2 | (with_reducible first | refine cA ?_ _ | refine cN ?_ _ | refine cD ?_))); (case side2 => exact (Kd.S_reads' HO466.out).2.1); (case side3 => repeat (first | exact (Kd.S_reads' HO468.out).2.2 | (with_reducible first | refine cA ?_ _ | refine cN ?_ _ | refine cD ?_))); (case side4 => exact (Kd.S_reads' HO468.out).2.1); (case side5 => repeat (first | exact (Kd.R_reads' HO470.out).2.2 | (with_reducible first | refine cA ?_ _ | refine cN ?_ _ | refine cD ?_))); (case side6 => exact (Kd.R_reads' HO470.out).2.1); (case side7 => exact Kd.C_nil _ _); (case side8 => exact Nat.le_refl _); rintro e w24 ⟨rfl, hb⟩; replace HO466 := Aside0.mk (Kd.S_below (by (with_reducible repeat (first | apply sA | apply sN | apply sD)); exact HO466.out) hb); replace HO468 := Aside0.mk (Kd.S_below (by (with_reducible repeat (first | apply sA | apply sN | apply sD)); exact HO468.out) hb); replace HO470 := Aside0.mk (Kd.R_below (by (with_reducible repeat (first | apply rA | apply rN | apply rD)); exact HO470.out) hb); replace HO474 := Aside0.mk (Kd.R_below (by (with_reducible repeat (first | apply rA | apply rN | apply rD)); exact HO474.out) hb); replace HB := Aside0.mk (below_step (by repeat (first | (with_reducible first | exact HB.out | apply bA | apply bN | apply bD) | exact HB.out)) hb); (try clear hb); (try clear hb2); (try clear hk); (try clear hi))); try go_wp2)
   try clear hw64
   go_meet
   case rel => exact ⟨_, ((true != t478)), (by first | rfl | (simp; done) | (simp [*]; done)), H', ⟨by first | omega | exact Nat.le_refl _⟩, ⟨by (with_reducible repeat (first | apply sA | apply sN | apply sD)); exact Kd.S_mono HO468.out (fun _ hk => hk.2)⟩, ⟨by (with_reducible repeat (first | apply rA | apply rN | apply rD)); exact HO474.out⟩, ⟨by repeat (first | (with_reducible first | exact HB.out | apply bA | apply bN | apply bD) | exact HB.out)⟩⟩
  case rest =>
   clear HC6
   try clear c1
   try clear p2
   try clear c3
   try clear c8
   try clear c12
   try clear c14
   try clear c16
   try clear c18
   try clear c34
   try clear c34b0
   try clear c34b1
   try clear c37
   try clear c39
   obtain ⟨kq, x58_5, rfl, HA, HJ5, HO_4, HO_6, HB⟩ := hcut
   cases kq with
   | zero => exact absurd HA.out (by simp [laws_FnJudges.j0])
   | succ kj5 =>
    have H := HA.out
    clear HA
    simp only [laws_FnJudges.j0] at H
    by_cases c50 : x58_5 = true
    rotate_left
    ·
     replace c50 := Bool.eq_false_iff.mpr c50
     subst c50
     have H1 : ((impl_FreeJudges.f kj5 t463 t471).bind fun t482 => (laws_FnJudges.l0 kj5 t463 t471 t482 0)) = some r := by rw [if_neg (show ¬ (false = true) by decide)] at H; exact H
     clear H
     have H := H1
     clear H1
     replace H := Option.bind_eq_some_iff.mp H
     obtain ⟨t482, A510, H⟩ := H
     replace H : (laws_FnJudges.l0 kj5 t463 t471 t482 0) = some r := H
     have A51 := Aside0.mk A510
     clear A510
     have H' := Aside0.mk H
     clear H
     obtain ⟨Ao52, co52, eo52⟩ := Kd.R_slice HO_6.out
     subst eo52
     go_wp2_with (first | (go_at_call 17; (with_reducible refine (impl_FreeJudges.calls kj5 _ _ t463 _ _ t471 t482 _ ?side1 ?side2 ?side3 ?side4 A51.out).mono ?_); (case side1 => repeat (first | exact (Kd.S_reads' HO_4.out).2.2 | (with_reducible first | refine cA ?_ _ | refine cN ?_ _ | refine cD ?_))); (case side2 => exact (Kd.S_reads' HO_4.out).2.1); (case side3 => repeat (first | exact (Kd.R_reads' HO_6.out).2.2 | (with_reducible first | refine cA ?_ _ | refine cN ?_ _ | refine cD ?_))); (case side4 => exact (Kd.R_reads' HO_6.out).2.1); rintro e w53 ⟨v483, rfl, ho0, hb⟩; have n0_ := Aside0.mk (Kd.S_elder' (by (with_reducible repeat (first | apply sA | apply sN | apply sD)); exact HO_4.out) (Kd.R_base ho0) hb); have n1_ := Aside0.mk (Kd.R_elder' (by (with_reducible repeat (first | apply rA | apply rN | apply rD)); exact HO_6.out) (Kd.R_base ho0) hb); have n2_ := Aside0.mk (Kd.R_lower (Kd.R_new' ho0 (Kd.R_lt (by (with_reducible repeat (first | apply rA | apply rN | apply rD)); exact HO_6.out))) (below_size (by repeat (first | (with_reducible first | exact HB.out | apply bA | apply bN | apply bD) | exact HB.out)))); have n3_ := Aside0.mk (below_step (by repeat (first | (with_reducible first | exact HB.out | apply bA | apply bN | apply bD) | exact HB.out)) hb); clear HO_4; clear HO_6; clear HB; have HO_4 := n0_; have HO_6 := n1_; have HO484 := n2_; have HB := n3_; clear n0_ n1_ n2_ n3_; (try clear hb); (try clear hb2); (try clear hk); (try clear hi); (try clear ho0)))
     have hw64 : ∀ x : Int, IntKind.i64.wrap x = wrap64 x := by intro x; rw [IntKind.wrap_i64]; unfold wrap64; rfl
     repeat (go_quiet (first | (go_at_call 17; (with_reducible refine (impl_FreeJudges.calls kj5 _ _ t463 _ _ t471 t482 _ ?side1 ?side2 ?side3 ?side4 A51.out).mono ?_); (case side1 => repeat (first | exact (Kd.S_reads' HO_4.out).2.2 | (with_reducible first | refine cA ?_ _ | refine cN ?_ _ | refine cD ?_))); (case side2 => exact (Kd.S_reads' HO_4.out).2.1); (case side3 => repeat (first | exact (Kd.R_reads' HO_6.out).2.2 | (with_reducible first | refine cA ?_ _ | refine cN ?_ _ | refine cD ?_))); (case side4 => exact (Kd.R_reads' HO_6.out).2.1); rintro e w53 ⟨v483, rfl, ho0, hb⟩; have n0_ := Aside0.mk (Kd.S_elder' (by (with_reducible repeat (first | apply sA | apply sN | apply sD)); exact HO_4.out) (Kd.R_base ho0) hb); have n1_ := Aside0.mk (Kd.R_elder' (by (with_reducible repeat (first | apply rA | apply rN | apply rD)); exact HO_6.out) (Kd.R_base ho0) hb); have n2_ := Aside0.mk (Kd.R_lower (Kd.R_new' ho0 (Kd.R_lt (by (with_reducible repeat (first | apply rA | apply rN | apply rD)); exact HO_6.out))) (below_size (by repeat (first | (with_reducible first | exact HB.out | apply bA | apply bN | apply bD) | exact HB.out)))); have n3_ := Aside0.mk (below_step (by repeat (first | (with_reducible first | exact HB.out | apply bA | apply bN | apply bD) | exact HB.out)) hb); clear HO_4; clear HO_6; clear HB; have HO_4 := n0_; have HO_6 := n1_; have HO484 := n2_; have HB := n3_; clear n0_ n1_ n2_ n3_; (try clear hb); (try clear hb2); (try clear hk); (try clear hi); (try clear ho0))); try go_wp2)
     try clear hw64
     go_loopg [9] kj5 (fun kq v9 w' => ∃ (x9_2 : Int), v9 = .int .i64 x9_2 ∧ Aside0 (laws_FnJudges.l0 kq t463 t471 t482 x9_2 = some r) ∧ Aside0 (kq ≤ kj5) ∧ Aside0 (Kd.S k46 46 w' w.heap.size (fun k_ => some k_ ≠ ((.slice Ao52 t471.length co52) : Value).ownBlock ∧ some k_ ≠ (v483 : Value).ownBlock) (.slice Ao9 t463.length co9) t463) ∧ Aside0 (Kd.R (Kd.int .i64) 3 w' w.heap.size (fun k_ => some k_ ≠ (v483 : Value).ownBlock) (.slice Ao52 t471.length co52) t471) ∧ Aside0 (Kd.R (Kd.int .i64) 3 w' w.heap.size (fun k_ => some k_ ≠ ((.slice Ao52 t471.length co52) : Value).ownBlock) v483 t482) ∧ Aside0 (Below w.heap.size w w'))
     case atStart => exact ⟨(0), (by first | rfl | (simp; done) | (simp [*]; done)), H', ⟨Nat.le_refl _⟩, ⟨by (with_reducible repeat (first | apply sA | apply sN | apply sD)); exact HO_4.out⟩, ⟨by (with_reducible repeat (first | apply rA | apply rN | apply rD)); exact Kd.R_mono HO_6.out (fun _ hk => hk.2)⟩, ⟨by (with_reducible repeat (first | apply rA | apply rN | apply rD)); exact Kd.R_mono HO484.out (fun _ hk => hk.2)⟩, ⟨by repeat (first | (with_reducible first | exact HB.out | apply bA | apply bN | apply bD) | exact HB.out)⟩⟩
     case round =>
      clear H'
      try clear c1
      try clear p2
      try clear c3
      try clear c5
      try clear c8
      try clear c12
      try clear c14
      try clear c16
      try clear c18
      try clear c34
      try clear c34b0
      try clear c34b1
      try clear c37
      try clear c39
      try clear c50
      try clear p2
      obtain ⟨x9_2, rfl, HA, HK2, HO_4, HO_6, HO_8, HB⟩ := hrel
      cases gk with
      | zero => exact absurd HA.out (by simp [laws_FnJudges.l0])
      | succ k2 =>
       have H := HA.out
       clear HA
       simp only [laws_FnJudges.l0] at H
       by_cases c54 : x9_2 < (t463.length : Int)
       rotate_left
       ·
        rw [if_neg c54] at H
        have c54b0 : decide (x9_2 < (t463.length : Int)) = false := decide_eq_false c54
        clear c54
        obtain rfl := Option.some.inj H
        go_wp2
        have hw64 : ∀ x : Int, IntKind.i64.wrap x = wrap64 x := by intro x; rw [IntKind.wrap_i64]; unfold wrap64; rfl
        repeat (go_quiet (fail); try go_wp2)
        try clear hw64
        all_goals (go_ret; exact ⟨by first | rfl | (simp [*, errW_none, errW_some] <;> rfl), by repeat (first | (with_reducible first | exact HB.out | apply bA | apply bN | apply bD) | exact HB.out)⟩)

       rw [if_pos c54] at H
       have c54b0 : decide (x9_2 < (t463.length : Int)) = true := decide_eq_true c54
       clear c54
       by_cases c55 : 0 ≤ x9_2
       rotate_left
       ·
        rw [if_neg c55] at H
        exact absurd H (by simp)
       rw [if_pos c55] at H
       have c55b0 : decide (0 ≤ x9_2) = true := decide_eq_true c55
       clear c55
       replace H := Option.bind_eq_some_iff.mp H
       obtain ⟨t486, A560, H⟩ := H
       replace H : ((laws_contains.f k2 t471 ((rd_T46 t463 x9_2).f0)).bind fun t488 => (if (t486 == t488) = true then (some false) else (laws_FnJudges.l0 k2 t463 t471 t482 (wrap64 (x9_2 + 1))))) = some r := H
       have A56 := Aside0.mk A560
       clear A560
       replace H := Option.bind_eq_some_iff.mp H
       obtain ⟨t488, A570, H⟩ := H
       replace H : (if (t486 == t488) = true then (some false) else (laws_FnJudges.l0 k2 t463 t471 t482 (wrap64 (x9_2 + 1)))) = some r := H
       have A57 := Aside0.mk A570
       clear A570
       by_cases c58 : (t486 == t488) = true
       rotate_left
       ·
        rw [if_neg c58] at H
        have c58b0 : (t486 == t488) = false := by simpa using c58
        (try (have c58b1 : decide (t486 = t488) = false := by simpa using c58))
        (try (have c58b2 : (t486 == t488) = false := by simpa using c58))
        (try (have c58b3 : ¬ (t486 = t488) := by simpa using c58))
        clear c58
        have H' := Aside0.mk H
        clear H
        have p485 : 0 ≤ (x9_2 : Int) := od (by assumption)
        have q485 : x9_2 < (t463.length : Int) := od (by assumption)
        obtain ⟨ad485, A485_2, c485_2, e485, hx485_0, hx485_1, hx485_2, hl485_2, hi485_2⟩ := at_T46 (Kd.S_reads' HO_4.out).2.2 x9_2 p485 q485
        cases e485
        obtain ⟨ce485, hce485, hMe485, hcc485⟩ := Kd.S_get HO_4.out z46 x9_2 p485 (by first | exact q485 | exact od (by assumption) | (have e_ := (Kd.S_reads' HO_4.out).1; omega))
        obtain ⟨ve485_2, rfl, ge485_2⟩ := k46_openM hMe485
        have hv485_2 := hcc485 2 _ rfl
        rw [add_field _ _ 2 (by omega)] at hv485_2
        replace hv485_2 := Option.some.inj (hv485_2.symm.trans hx485_2)
        rw [hv485_2] at ge485_2
        have HL485_2 := Aside0.mk (show Kd.R (Kd.int .i64) 3 _ _ _ _ ((rd_T46 t463 x9_2).f2) from ge485_2)
        clear hv485_2 ge485_2
        clear hcc485 hce485
        have HR485_2 := Aside0.mk hi485_2
        have HC485_2 := Aside0.mk hl485_2
        clear hi485_2 hl485_2
        replace p485 := eq_true p485
        replace q485 := eq_true q485
        obtain ⟨Ao60, co60, eo60⟩ := Kd.R_slice HO_8.out
        subst eo60
        go_wp2_with (first | (go_at_call 44; (with_reducible refine (laws_contains.calls k2 _ _ t482 ((rd_T46 t463 x9_2).f0) t486 _ ?side1 ?side2 A56.out).mono ?_); (case side1 => repeat (first | exact (Kd.R_reads' HO_8.out).2.2 | (with_reducible first | refine cA ?_ _ | refine cN ?_ _ | refine cD ?_))); (case side2 => exact (Kd.R_reads' HO_8.out).2.1); rintro e w' ⟨rfl, ⟨nd, rfl⟩⟩; (try first | exact ⟨rfl, _, dN⟩ | exact ⟨rfl, _, dE⟩); have p487 : 0 ≤ (x9_2 : Int) := od (by assumption); have q487 : x9_2 < (t463.length : Int) := od (by assumption); obtain ⟨ad487, A487_2, c487_2, e487, hx487_0, hx487_1, hx487_2, hl487_2, hi487_2⟩ := at_T46 (Kd.S_reads' HO_4.out).2.2 x9_2 p487 q487; obtain rfl : ad485 = ad487 := (by injection e487); obtain ⟨ce487, hce487, hMe487, hcc487⟩ := Kd.S_get HO_4.out z46 x9_2 p487 (by first | exact q487 | exact od (by assumption) | (have e_ := (Kd.S_reads' HO_4.out).1; omega)); obtain ⟨ve487_2, rfl, ge487_2⟩ := k46_openM hMe487; have hv487_2 := hcc487 2 _ rfl; rw [add_field _ _ 2 (by omega)] at hv487_2; replace hv487_2 := Option.some.inj (hv487_2.symm.trans hx487_2); rw [hv487_2] at ge487_2; have HL487_2 := Aside0.mk (show Kd.R (Kd.int .i64) 3 _ _ _ _ ((rd_T46 t463 x9_2).f2) from ge487_2); clear hv487_2 ge487_2; clear hcc487 hce487; have HR487_2 := Aside0.mk hi487_2; have HC487_2 := Aside0.mk hl487_2; clear hi487_2 hl487_2; replace p487 := eq_true p487; replace q487 := eq_true q487; have ea_ := Option.some.inj (hx485_2.symm.trans hx487_2); injection ea_ with ea_ en_ ec_; subst ea_; subst ec_; clear en_) | (go_at_call 44; (with_reducible refine (laws_contains.calls k2 _ _ t471 ((rd_T46 t463 x9_2).f0) t488 _ ?side1 ?side2 A57.out).mono ?_); (case side1 => repeat (first | exact (Kd.R_reads' HO_6.out).2.2 | (with_reducible first | refine cA ?_ _ | refine cN ?_ _ | refine cD ?_))); (case side2 => exact (Kd.R_reads' HO_6.out).2.1); rintro e w' ⟨rfl, ⟨nd, rfl⟩⟩; (try first | exact ⟨rfl, _, dN⟩ | exact ⟨rfl, _, dE⟩)))
        have hw64 : ∀ x : Int, IntKind.i64.wrap x = wrap64 x := by intro x; rw [IntKind.wrap_i64]; unfold wrap64; rfl
        repeat (go_quiet (first | (go_at_call 44; (with_reducible refine (laws_contains.calls k2 _ _ t482 ((rd_T46 t463 x9_2).f0) t486 _ ?side1 ?side2 A56.out).mono ?_); (case side1 => repeat (first | exact (Kd.R_reads' HO_8.out).2.2 | (with_reducible first | refine cA ?_ _ | refine cN ?_ _ | refine cD ?_))); (case side2 => exact (Kd.R_reads' HO_8.out).2.1); rintro e w' ⟨rfl, ⟨nd, rfl⟩⟩; (try first | exact ⟨rfl, _, dN⟩ | exact ⟨rfl, _, dE⟩); have p487 : 0 ≤ (x9_2 : Int) := od (by assumption); have q487 : x9_2 < (t463.length : Int) := od (by assumption); obtain ⟨ad487, A487_2, c487_2, e487, hx487_0, hx487_1, hx487_2, hl487_2, hi487_2⟩ := at_T46 (Kd.S_reads' HO_4.out).2.2 x9_2 p487 q487; obtain rfl : ad485 = ad487 := (by injection e487); obtain ⟨ce487, hce487, hMe487, hcc487⟩ := Kd.S_get HO_4.out z46 x9_2 p487 (by first | exact q487 | exact od (by assumption) | (have e_ := (Kd.S_reads' HO_4.out).1; omega)); obtain ⟨ve487_2, rfl, ge487_2⟩ := k46_openM hMe487; have hv487_2 := hcc487 2 _ rfl; rw [add_field _ _ 2 (by omega)] at hv487_2; replace hv487_2 := Option.some.inj (hv487_2.symm.trans hx487_2); rw [hv487_2] at ge487_2; have HL487_2 := Aside0.mk (show Kd.R (Kd.int .i64) 3 _ _ _ _ ((rd_T46 t463 x9_2).f2) from ge487_2); clear hv487_2 ge487_2; clear hcc487 hce487; have HR487_2 := Aside0.mk hi487_2; have HC487_2 := Aside0.mk hl487_2; clear hi487_2 hl487_2; replace p487 := eq_true p487; replace q487 := eq_true q487; have ea_ := Option.some.inj (hx485_2.symm.trans hx487_2); injection ea_ with ea_ en_ ec_; subst ea_; subst ec_; clear en_) | (go_at_call 44; (with_reducible refine (laws_contains.calls k2 _ _ t471 ((rd_T46 t463 x9_2).f0) t488 _ ?side1 ?side2 A57.out).mono ?_); (case side1 => repeat (first | exact (Kd.R_reads' HO_6.out).2.2 | (with_reducible first | refine cA ?_ _ | refine cN ?_ _ | refine cD ?_))); (case side2 => exact (Kd.R_reads' HO_6.out).2.1); rintro e w' ⟨rfl, ⟨nd, rfl⟩⟩; (try first | exact ⟨rfl, _, dN⟩ | exact ⟨rfl, _, dE⟩))); try go_wp2)
        try clear hw64
        go_roundg k2
        case measure => have := HJ5.out; have := HK2.out; omega
        case rel => exact ⟨(wrap64 (x9_2 + 1)), (by first | rfl | (simp; done) | (simp [*]; done)), H', ⟨by have := HJ5.out; have := HK2.out; omega⟩, ⟨by (with_reducible repeat (first | apply sA | apply sN | apply sD)); exact HO_4.out⟩, ⟨by (with_reducible repeat (first | apply rA | apply rN | apply rD)); exact HO_6.out⟩, ⟨by (with_reducible repeat (first | apply rA | apply rN | apply rD)); exact HO_8.out⟩, ⟨by repeat (first | (with_reducible first | exact HB.out | apply bA | apply bN | apply bD) | exact HB.out)⟩⟩
       rw [if_pos c58] at H
       have c58b0 : (t486 == t488) = true := c58
       (try (have c58b1 : decide (t486 = t488) = true := by simpa using c58))
       (try (have c58b2 : (t486 == t488) = true := by simpa using c58))
       clear c58
       obtain rfl := Option.some.inj H
       have p485 : 0 ≤ (x9_2 : Int) := od (by assumption)
       have q485 : x9_2 < (t463.length : Int) := od (by assumption)
       obtain ⟨ad485, A485_2, c485_2, e485, hx485_0, hx485_1, hx485_2, hl485_2, hi485_2⟩ := at_T46 (Kd.S_reads' HO_4.out).2.2 x9_2 p485 q485
       cases e485
       obtain ⟨ce485, hce485, hMe485, hcc485⟩ := Kd.S_get HO_4.out z46 x9_2 p485 (by first | exact q485 | exact od (by assumption) | (have e_ := (Kd.S_reads' HO_4.out).1; omega))
       obtain ⟨ve485_2, rfl, ge485_2⟩ := k46_openM hMe485
       have hv485_2 := hcc485 2 _ rfl
       rw [add_field _ _ 2 (by omega)] at hv485_2
       replace hv485_2 := Option.some.inj (hv485_2.symm.trans hx485_2)
       rw [hv485_2] at ge485_2
       have HL485_2 := Aside0.mk (show Kd.R (Kd.int .i64) 3 _ _ _ _ ((rd_T46 t463 x9_2).f2) from ge485_2)
       clear hv485_2 ge485_2
       clear hcc485 hce485
       have HR485_2 := Aside0.mk hi485_2
       have HC485_2 := Aside0.mk hl485_2
       clear hi485_2 hl485_2
       replace p485 := eq_true p485
       replace q485 := eq_true q485
       obtain ⟨Ao59, co59, eo59⟩ := Kd.R_slice HO_8.out
       subst eo59
       go_wp2_with (first | (go_at_call 44; (with_reducible refine (laws_contains.calls k2 _ _ t482 ((rd_T46 t463 x9_2).f0) t486 _ ?side1 ?side2 A56.out).mono ?_); (case side1 => repeat (first | exact (Kd.R_reads' HO_8.out).2.2 | (with_reducible first | refine cA ?_ _ | refine cN ?_ _ | refine cD ?_))); (case side2 => exact (Kd.R_reads' HO_8.out).2.1); rintro e w' ⟨rfl, ⟨nd, rfl⟩⟩; (try first | exact ⟨rfl, _, dN⟩ | exact ⟨rfl, _, dE⟩); have p487 : 0 ≤ (x9_2 : Int) := od (by assumption); have q487 : x9_2 < (t463.length : Int) := od (by assumption); obtain ⟨ad487, A487_2, c487_2, e487, hx487_0, hx487_1, hx487_2, hl487_2, hi487_2⟩ := at_T46 (Kd.S_reads' HO_4.out).2.2 x9_2 p487 q487; obtain rfl : ad485 = ad487 := (by injection e487); obtain ⟨ce487, hce487, hMe487, hcc487⟩ := Kd.S_get HO_4.out z46 x9_2 p487 (by first | exact q487 | exact od (by assumption) | (have e_ := (Kd.S_reads' HO_4.out).1; omega)); obtain ⟨ve487_2, rfl, ge487_2⟩ := k46_openM hMe487; have hv487_2 := hcc487 2 _ rfl; rw [add_field _ _ 2 (by omega)] at hv487_2; replace hv487_2 := Option.some.inj (hv487_2.symm.trans hx487_2); rw [hv487_2] at ge487_2; have HL487_2 := Aside0.mk (show Kd.R (Kd.int .i64) 3 _ _ _ _ ((rd_T46 t463 x9_2).f2) from ge487_2); clear hv487_2 ge487_2; clear hcc487 hce487; have HR487_2 := Aside0.mk hi487_2; have HC487_2 := Aside0.mk hl487_2; clear hi487_2 hl487_2; replace p487 := eq_true p487; replace q487 := eq_true q487; have ea_ := Option.some.inj (hx485_2.symm.trans hx487_2); injection ea_ with ea_ en_ ec_; subst ea_; subst ec_; clear en_) | (go_at_call 44; (with_reducible refine (laws_contains.calls k2 _ _ t471 ((rd_T46 t463 x9_2).f0) t488 _ ?side1 ?side2 A57.out).mono ?_); (case side1 => repeat (first | exact (Kd.R_reads' HO_6.out).2.2 | (with_reducible first | refine cA ?_ _ | refine cN ?_ _ | refine cD ?_))); (case side2 => exact (Kd.R_reads' HO_6.out).2.1); rintro e w' ⟨rfl, ⟨nd, rfl⟩⟩; (try first | exact ⟨rfl, _, dN⟩ | exact ⟨rfl, _, dE⟩)))
       have hw64 : ∀ x : Int, IntKind.i64.wrap x = wrap64 x := by intro x; rw [IntKind.wrap_i64]; unfold wrap64; rfl
       repeat (go_quiet (first | (go_at_call 44; (with_reducible refine (laws_contains.calls k2 _ _ t482 ((rd_T46 t463 x9_2).f0) t486 _ ?side1 ?side2 A56.out).mono ?_); (case side1 => repeat (first | exact (Kd.R_reads' HO_8.out).2.2 | (with_reducible first | refine cA ?_ _ | refine cN ?_ _ | refine cD ?_))); (case side2 => exact (Kd.R_reads' HO_8.out).2.1); rintro e w' ⟨rfl, ⟨nd, rfl⟩⟩; (try first | exact ⟨rfl, _, dN⟩ | exact ⟨rfl, _, dE⟩); have p487 : 0 ≤ (x9_2 : Int) := od (by assumption); have q487 : x9_2 < (t463.length : Int) := od (by assumption); obtain ⟨ad487, A487_2, c487_2, e487, hx487_0, hx487_1, hx487_2, hl487_2, hi487_2⟩ := at_T46 (Kd.S_reads' HO_4.out).2.2 x9_2 p487 q487; obtain rfl : ad485 = ad487 := (by injection e487); obtain ⟨ce487, hce487, hMe487, hcc487⟩ := Kd.S_get HO_4.out z46 x9_2 p487 (by first | exact q487 | exact od (by assumption) | (have e_ := (Kd.S_reads' HO_4.out).1; omega)); obtain ⟨ve487_2, rfl, ge487_2⟩ := k46_openM hMe487; have hv487_2 := hcc487 2 _ rfl; rw [add_field _ _ 2 (by omega)] at hv487_2; replace hv487_2 := Option.some.inj (hv487_2.symm.trans hx487_2); rw [hv487_2] at ge487_2; have HL487_2 := Aside0.mk (show Kd.R (Kd.int .i64) 3 _ _ _ _ ((rd_T46 t463 x9_2).f2) from ge487_2); clear hv487_2 ge487_2; clear hcc487 hce487; have HR487_2 := Aside0.mk hi487_2; have HC487_2 := Aside0.mk hl487_2; clear hi487_2 hl487_2; replace p487 := eq_true p487; replace q487 := eq_true q487; have ea_ := Option.some.inj (hx485_2.symm.trans hx487_2); injection ea_ with ea_ en_ ec_; subst ea_; subst ec_; clear en_) | (go_at_call 44; (with_reducible refine (laws_contains.calls k2 _ _ t471 ((rd_T46 t463 x9_2).f0) t488 _ ?side1 ?side2 A57.out).mono ?_); (case side1 => repeat (first | exact (Kd.R_reads' HO_6.out).2.2 | (with_reducible first | refine cA ?_ _ | refine cN ?_ _ | refine cD ?_))); (case side2 => exact (Kd.R_reads' HO_6.out).2.1); rintro e w' ⟨rfl, ⟨nd, rfl⟩⟩; (try first | exact ⟨rfl, _, dN⟩ | exact ⟨rfl, _, dE⟩))); try go_wp2)
       try clear hw64
       all_goals (go_ret; exact ⟨by first | rfl | (simp [*, errW_none, errW_some] <;> rfl), by repeat (first | (with_reducible first | exact HB.out | apply bA | apply bN | apply bD) | exact HB.out)⟩)
    subst c50
    have H1 : (some false) = some r := by rw [if_pos rfl] at H; exact H
    clear H
    have H := H1
    clear H1
    obtain rfl := Option.some.inj H
    go_wp2
    have hw64 : ∀ x : Int, IntKind.i64.wrap x = wrap64 x := by intro x; rw [IntKind.wrap_i64]; unfold wrap64; rfl
    repeat (go_quiet (fail); try go_wp2)
    try clear hw64
    all_goals (go_ret; exact ⟨by first | rfl | (simp [*, errW_none, errW_some] <;> rfl), by repeat (first | (with_reducible first | exact HB.out | apply bA | apply bN | apply bD) | exact HB.out)⟩)
 subst c3
 have H1 : (some true) = some r := by rw [if_pos rfl] at H; exact H
 clear H
 have H := H1
 clear H1
 obtain rfl := Option.some.inj H
 go_enter Try.func8, Try.ntmps8
 go_wp2_with (first | (go_at_call 40; (with_reducible refine (laws_big.calls _ _ l0 true _ ?side1 ?side2 A2.out).mono ?_); (case side1 => repeat (first | exact HR0.out | (with_reducible first | refine cA ?_ _ | refine cN ?_ _ | refine cD ?_))); (case side2 => exact HC0.out); rintro e w' ⟨rfl, ⟨nd, rfl⟩⟩; (try first | exact ⟨rfl, _, dN⟩ | exact ⟨rfl, _, dE⟩)))
 have hw64 : ∀ x : Int, IntKind.i64.wrap x = wrap64 x := by intro x; rw [IntKind.wrap_i64]; unfold wrap64; rfl
 repeat (go_quiet (first | (go_at_call 40; (with_reducible refine (laws_big.calls _ _ l0 true _ ?side1 ?side2 A2.out).mono ?_); (case side1 => repeat (first | exact HR0.out | (with_reducible first | refine cA ?_ _ | refine cN ?_ _ | refine cD ?_))); (case side2 => exact HC0.out); rintro e w' ⟨rfl, ⟨nd, rfl⟩⟩; (try first | exact ⟨rfl, _, dN⟩ | exact ⟨rfl, _, dE⟩))); try go_wp2)
 try clear hw64
 all_goals (go_ret; exact ⟨by first | rfl | (simp [*, errW_none, errW_some] <;> rfl), by repeat (first | (with_reducible first | exact HB.out | apply bA | apply bN | apply bD) | exact HB.out)⟩)
def laws_FnJudges.Pure : Prop := ∀ (l0 : List Int), l0.length ≤ maxLen → l0.length * 1 ≤ 140737488351232 → (∀ x ∈ l0, (Lit.int .u8 x).wf = true) → ∃ k, laws_FnJudges.f k l0 = some true
end Go.Proofs.Ytdlebbmmanjffaa.A
end
section
set_option linter.unusedVariables false
namespace Go.Proofs.Ytdlebbmmanjffaa.Open
open Go.ChangeShapes Go.WideShapes Go.Deep Go.RowKit Go.Proofs.YtdlebbmmanjffaaW.PrintWords
def Opn (P : Program) (t : TypeId) {α : Type} (d : Kd α) : Prop :=
  ∀ (H : Type) (enc : TypeId × Value → H) (w : World) (base : Nat) (spare : Nat → Bool) (held : Bool) (fuel : Nat) (cs : List Value) (y : DataW H × List MemPlace),
    DataW.trod enc P w base spare held fuel t cs = some y → ∃ x : α, d.K w x cs
def OpnL (P : Program) (fs : List Field) {α : Type} (d : Kd α) : Prop :=
  ∀ (H : Type) (enc : TypeId × Value → H) (w : World) (base : Nat) (spare : Nat → Bool) (held : Bool) (cs : List Value), cs.length = fs.length →
    (∀ (j : Nat) (f : Field) (c : Value), fs[j]? = some f → cs[j]? = some c → ∃ (n : Nat) (y : DataW H × List MemPlace), DataW.trod enc P w base spare held n f.type [c] = some y) → ∃ x : α, d.K w x cs
theorem opn_int {P : Program} {t : TypeId} {k : IntKind} (ht : P.underlying t = some (.int k)) : Opn P t (Kd.int k) := by
  intro H enc w base spare held fuel cs y h
  obtain ⟨n, rfl, _⟩ := DataW.trod_int ht h
  exact ⟨n, rfl⟩
theorem list_of {α : Type} {p : Nat → α → Prop} : ∀ n, (∀ i, i < n → ∃ x, p i x) → ∃ l : List α, l.length = n ∧ ∀ i x, l[i]? = some x → p i x
  | 0, _ => ⟨[], rfl, fun i x h => by simp at h⟩
  | n + 1, h => by
    obtain ⟨l, hl, hp⟩ := list_of n (fun i hi => h i (by omega))
    obtain ⟨x, hx⟩ := h n (by omega)
    refine ⟨l ++ [x], by simp [hl], fun i y hy => ?_⟩
    rcases Nat.lt_or_ge i l.length with hi | hi
    · rw [List.getElem?_append_left hi] at hy
      exact hp i y hy
    · have hi' : i = l.length := by
        have := (List.getElem?_eq_some_iff.1 hy).1
        rw [List.length_append, List.length_singleton] at this
        omega
      subst hi'
      have : x = y := by simpa using hy
      subst this
      rw [hl]
      exact hx
theorem opn_slice {P : Program} {t e : TypeId} {α : Type} {d : Kd α} (ht : P.underlying t = some (.slice e)) (hC : P.cellsOf e = d.sz) (he : Opn P e d) : Opn P t (Kd.slice e d) := by
  intro H enc w base spare held fuel cs y h
  rcases open_slice ht h with ⟨rfl, _⟩ | ⟨a, len, cap, m, n, D, Pl, rfl, hb, hl, hm, hmm, hx, hi⟩
  · exact ⟨[], none, 0, rfl, Nat.le_refl _, rfl, by simp, fun h => absurd h (by simp)⟩
  · have hlm : len ≤ m := by rw [hmm]; split <;> omega
    obtain ⟨xs, hxl, hp⟩ := list_of (p := fun i x => ∃ cs', w.cells? base (a.add (i * P.cellsOf e)) (P.cellsOf e) = some cs' ∧ d.K w x cs') len (fun i hil => by
      obtain ⟨cs', h1, h2⟩ := hi i (by omega)
      obtain ⟨x, hx⟩ := he H enc w base spare held n cs' _ h2
      exact ⟨x, cs', h1, hx⟩)
    refine ⟨xs, some a, cap, by rw [hxl], by omega, rfl, by unfold maxLen at hm; omega, fun _ => ⟨a, rfl, fun j p hj => ?_⟩⟩
    obtain ⟨cs', hc, hk⟩ := hp j p hj
    obtain ⟨_, hcl, hat⟩ := World.cells?_some hc
    refine ⟨cs', d.K_len hk, hk, fun i u hu => ?_⟩
    have hil : i < cs'.length := (List.getElem?_eq_some_iff.1 hu).1
    have := hat i (by omega)
    rw [Go.Deep.add_add, hC] at this
    rw [this]
    exact hu
theorem opened {H : Type} {enc : TypeId × Value → H} {P : Program} {W : World} {base : Nat} {spare : Nat → Bool} {held : Bool} {t e : TypeId} {α : Type} {d : Kd α} (h : Opn P t (Kd.slice e d)) {a : Option Addr} {len cap : Nat} {dd : DataW H} {ps : List MemPlace}
    (ht : DataW.Trod enc P W base spare held t (.slice a len cap) dd ps) : ∃ l : List α, l.length = len ∧ l.length ≤ cap ∧ d.C W a l.length l := by
  obtain ⟨fuel, hf⟩ := ht
  obtain ⟨l, A, c, he, hl, hc⟩ := h H enc W base spare held fuel _ _ hf
  simp [Value.cells] at he
  obtain ⟨rfl, rfl, rfl⟩ := he
  exact ⟨l, rfl, hl, hc⟩
end Go.Proofs.Ytdlebbmmanjffaa.Open
end
section
set_option linter.unusedVariables false
set_option linter.unusedSimpArgs false
namespace Go.Proofs.Ytdlebbmmanjffaa.L
open Go Go.RowKit Go.Proofs.Ytdlebbmmanjffaa.A Go.Proofs.YtdlebbmmanjffaaW.PrintWords
theorem Index_l0 (l : List Int) (x : Int) (hl : l.length ≤ 1099511627776) : ∀ (d n : Nat), n + d = l.length → Ev (fun k => slices_Index_int_int.l0 k l x (l.length : Int) (n : Int)) (if x ∈ l.drop n then ((n + (l.drop n).idxOf x : Nat) : Int) else -1) := by
  intro d
  induction d with
  | zero =>
    intro n hd
    refine Ev.step (fun k => slices_Index_int_int.l0.eq_2 ..) ?_
    refine Ev.neg (by omega) (Ev.some_ ?_)
    rw [List.drop_eq_nil_of_le (by omega)]
    simp
  | succ d ih =>
    intro n hd
    refine Ev.step (fun k => slices_Index_int_int.l0.eq_2 ..) ?_
    refine Ev.pos (by omega) (Ev.pos (by omega) (Ev.pos (by omega) ?_))
    simp only [w64s (show n < 4611686018427387904 by omega), rd_at (show n < l.length by omega)]
    have h1 := ih (n + 1) (by omega)
    rw [List.drop_eq_getElem_cons (show n < l.length by omega)]
    generalize l.drop (n + 1) = u at h1 ⊢
    refine Ev.ite (fun h => Ev.some_ ?_) (fun h => Ev.cast h1 ?_)
    · simp [h]
    · have h' : ¬ l[n] = x := fun e => h e.symm
      simp only [List.mem_cons, h, false_or, List.idxOf_cons, beq_eq_false_iff_ne.2 h']
      split
      · simp; omega
      · rfl
def idx (l : List Int) (x : Int) : Int := if x ∈ l then (l.idxOf x : Int) else -1
theorem Index_ev (l : List Int) (x : Int) (hl : l.length ≤ 1099511627776) : Ev (fun k => slices_Index_int_int.f k l x) (idx l x) := by
  unfold slices_Index_int_int.f
  refine Ev.cast (Index_l0 l x hl l.length 0 (by omega)) ?_
  simp [idx]
theorem Contains_ev (l : List Int) (x : Int) (hl : l.length ≤ 1099511627776) : Ev (fun k => slices_Contains_int_int.f k l x) (decide (x ∈ l)) := by
  unfold slices_Contains_int_int.f
  refine Ev.bind (Index_ev l x hl) (Ev.some_ ?_)
  unfold idx
  by_cases h : x ∈ l
  · simp [h]
  · simp [h]
abbrev Jg := S46
theorem rdJg {l : List Jg} {n : Nat} (h : n < l.length) : rd_T46 l (n : Int) = l[n] := by
  simp [rd_T46, h]
def SmallJ (l : List Jg) : Prop := l.length ≤ 1099511627776 ∧ ∀ x ∈ l, x.f2.length ≤ 1099511627776
def seenF (p : Int) : List Int → Bool
  | [] => true
  | x :: t => inR x 1 99 && decide (p < x) && seenF x t
def judgesF (p : Int) : List Jg → Bool
  | [] => true
  | j :: l => inR j.f0 1 99 && decide (p < j.f0) && inR j.f1 1 99 && seenF 0 j.f2 && judgesF j.f0 l
def okJudges (l : List Jg) : Bool := judgesF 0 l && decide ((l.length : Int) ≤ 10)
theorem iJ_l1 (l : List Jg) (hs : SmallJ l) (m : Nat) (hm : m < l.length) (a b : Int) (s : List Int) (h2 : s.length ≤ 1099511627776) (R : Bool) (hR : Ev (fun k => impl_AreJudges.l0 k l l (l.length : Int) ((m + 1 : Nat) : Int)) R) : ∀ (d n : Nat) (p : Int), n + d = s.length → (n = 0 → p = 0) → (∀ h : 0 < n ∧ n ≤ s.length, p = (s[n - 1]'(by omega))) → Ev (fun k => impl_AreJudges.l1 k l l (l.length : Int) (m : Int) s (s.length : Int) (n : Int) a b s) (seenF p (s.drop n) && R) := by
  have hl := hs.1
  intro d
  induction d with
  | zero =>
    intro n p hd hp0 hp
    refine Ev.step (fun k => impl_AreJudges.l1.eq_2 ..) (Ev.neg (by omega) ?_)
    simp only [w64s (show m < 4611686018427387904 by omega)]
    refine Ev.cast hR ?_
    rw [List.drop_eq_nil_of_le (by omega)]
    simp [seenF]
  | succ d ih =>
    intro n p hd hp0 hp
    refine Ev.step (fun k => impl_AreJudges.l1.eq_2 ..) (Ev.pos (by omega) (Ev.pos (by omega) (Ev.pos (by omega) ?_)))
    simp only [w64s (show n < 4611686018427387904 by omega), rd_at (show n < s.length by omega), InRange_eq, Option.bind_some]
    have h1 := ih (n + 1) (s[n]) (by omega) (by omega) (fun h => by simp)
    rw [List.drop_eq_getElem_cons (show n < s.length by omega)]
    generalize s.drop (n + 1) = u at h1 ⊢
    refine Ev.ite (fun h => Ev.ite (fun h3 => ?_) (fun h3 => Ev.cast h1 ?_)) (fun h => Ev.some_ ?_)
    · obtain ⟨q, rfl⟩ : ∃ q, n = q + 1 := ⟨n - 1, by omega⟩
      simp only [w64p (show q < 4611686018427387904 by omega), rd_at (show q < s.length by omega)]
      have hp' : p = s[q] := hp ⟨by omega, by omega⟩
      refine Ev.pos (by omega) (Ev.pos (by omega) (Ev.ite (fun h4 => Ev.some_ ?_) (fun h4 => Ev.cast h1 ?_)))
      · have : ¬ p < s[q + 1] := by omega
        simp [seenF, this]
      · have : p < s[q + 1] := by omega
        simp [seenF, this, h]
    · have h0 : n = 0 := by omega
      have := inR_iff.1 h
      have : p < s[n] := by rw [hp0 h0]; omega
      simp [seenF, h, this]
    · simp [seenF, h]
theorem iAreJudges_l0 (l : List Jg) (hs : SmallJ l) : ∀ (d n : Nat) (p : Int), n + d = l.length → (n = 0 → p = 0) → (∀ h : 0 < n ∧ n ≤ l.length, p = (l[n - 1]'(by omega)).f0) → Ev (fun k => impl_AreJudges.l0 k l l (l.length : Int) (n : Int)) (judgesF p (l.drop n)) := by
  have hl := hs.1
  intro d
  induction d with
  | zero =>
    intro n p hd hp0 hp
    refine Ev.step (fun k => impl_AreJudges.l0.eq_2 ..) ?_
    refine Ev.neg (by omega) (Ev.some_ ?_)
    rw [List.drop_eq_nil_of_le (by omega)]
    rfl
  | succ d ih =>
    intro n p hd hp0 hp
    have hn : n < l.length := by omega
    have h2 := hs.2 _ (List.getElem_mem hn)
    refine Ev.step (fun k => impl_AreJudges.l0.eq_2 ..) ?_
    refine Ev.pos (by omega) (Ev.pos (by omega) (Ev.pos (by omega) ?_))
    simp only [rdJg hn, InRange_eq, Option.bind_some]
    have h1 := ih (n + 1) (l[n]).f0 (by omega) (by omega) (fun h => by simp)
    have hin := iJ_l1 l hs n hn (l[n]).f0 (l[n]).f1 (l[n]).f2 h2 _ h1 (l[n]).f2.length 0 0 (by omega) (fun _ => rfl) (fun h => by omega)
    rw [List.drop_zero] at hin
    rw [List.drop_eq_getElem_cons hn]
    generalize l.drop (n + 1) = u at h1 hin ⊢
    have no : ∀ R : Bool, R = false → Ev (fun k => impl_AreJudges.j1 k l l (l.length : Int) (n : Int) true (l[n]).f0 (l[n]).f1 (l[n]).f2) R := fun R hR => Ev.step (fun k => impl_AreJudges.j1.eq_2 ..) (Ev.pos rfl (Ev.some_ hR.symm))
    have go : ∀ R : Bool, (seenF 0 (l[n]).f2 && judgesF (l[n]).f0 u) = R → Ev (fun k => impl_AreJudges.j1 k l l (l.length : Int) (n : Int) false (l[n]).f0 (l[n]).f1 (l[n]).f2) R := fun R hR => Ev.step (fun k => impl_AreJudges.j1.eq_2 ..) (Ev.neg (by simp) (Ev.cast hin hR))
    have bb : ∀ (R : Bool), (inR (l[n]).f1 1 99 = false → R = false) → (inR (l[n]).f1 1 99 = true → (seenF 0 (l[n]).f2 && judgesF (l[n]).f0 u) = R) → Ev (fun k => impl_AreJudges.j1 k l l (l.length : Int) (n : Int) (!inR (l[n]).f1 1 99) (l[n]).f0 (l[n]).f1 (l[n]).f2) R := by
      intro R r0 r1
      cases hq : inR (l[n]).f1 1 99 with
      | true => exact go R (r1 hq)
      | false => exact no R (r0 hq)
    refine Ev.ite (fun h => Ev.ite (fun h2 => ?_) (fun h2 => bb _ (fun h' => ?_) (fun h' => ?_))) (fun h => no _ ?_)
    · obtain ⟨q, rfl⟩ : ∃ q, n = q + 1 := ⟨n - 1, by omega⟩
      simp only [w64p (show q < 4611686018427387904 by omega), rdJg (show q < l.length by omega)]
      have hp' : p = l[q].f0 := hp ⟨by omega, by omega⟩
      refine Ev.pos (by omega) (Ev.pos (by omega) (Ev.ite (fun h3 => no _ ?_) (fun h3 => bb _ (fun h' => ?_) (fun h' => ?_))))
      · have : ¬ p < l[q + 1].f0 := by omega
        simp [judgesF, this]
      · simp [judgesF, h']
      · have : p < l[q + 1].f0 := by omega
        simp [judgesF, this, h, h', Bool.and_assoc]
    · simp [judgesF, h']
    · have h0 : n = 0 := by omega
      have := inR_iff.1 h
      have : p < l[n].f0 := by rw [hp0 h0]; omega
      simp [judgesF, h, h', this, Bool.and_assoc]
    · simp [judgesF, h]
theorem iAreJudges_ev (l : List Jg) (hs : SmallJ l) : Ev (fun k => impl_AreJudges.f k l) (okJudges l) := by
  unfold impl_AreJudges.f
  refine Ev.ite (fun h => Ev.some_ ?_) (fun h => Ev.cast (iAreJudges_l0 l hs l.length 0 0 (by omega) (fun _ => rfl) (fun h => by omega)) ?_)
  · have : ¬ (l.length : Int) ≤ 10 := by omega
    simp [okJudges, this]
  · have : (l.length : Int) ≤ 10 := by omega
    simp [okJudges, this]
def mayOne (l : List Tm) (club : Int) (seen : List Int) (id : Int) : Bool := decide (0 ≤ findT l id ∧ ¬ (rd_T78 l (findT l id)).f1 = club ∧ ¬ id ∈ seen)
def mayJ (l : List Tm) (club : Int) (seen : List Int) (a b : Int) : Bool := mayOne l club seen a && mayOne l club seen b
theorem iMayJ_l0 (l : List Tm) (id club : Int) (seen : List Int) (xs : List Int) (hs : Small l) (hj : seen.length ≤ 1099511627776) (hx : xs.length ≤ 1099511627776) : ∀ (d n : Nat), n + d = xs.length → Ev (fun k => impl_MayJudge.l0 k l xs (xs.length : Int) (n : Int) id club seen) ((xs.drop n).all fun a => mayOne l club seen a) := by
  intro d
  induction d with
  | zero =>
    intro n hd
    refine Ev.step (fun k => impl_MayJudge.l0.eq_2 ..) (Ev.neg (by omega) (Ev.some_ ?_))
    rw [List.drop_eq_nil_of_le (by omega)]
    rfl
  | succ d ih =>
    intro n hd
    refine Ev.step (fun k => impl_MayJudge.l0.eq_2 ..) (Ev.pos (by omega) (Ev.pos (by omega) (Ev.pos (by omega) ?_)))
    simp only [w64s (show n < 4611686018427387904 by omega), rd_at (show n < xs.length by omega)]
    have h1 := ih (n + 1) (by omega)
    rw [List.drop_eq_getElem_cons (show n < xs.length by omega)]
    generalize xs.drop (n + 1) = u at h1 ⊢
    have r0 := findT_range l xs[n]
    refine Ev.bnd (iFindTeam_eq l _) (Ev.ite (fun h => Ev.some_ ?_) (fun h => Ev.pos (by omega) (Ev.pos r0.2 (Ev.ite (fun h3 => Ev.some_ ?_) (fun h3 => Ev.bind (Contains_ev seen _ hj) (Ev.ite (fun h4 => Ev.some_ ?_) (fun h4 => Ev.cast h1 ?_)))))))
    · have : ¬ 0 ≤ findT l xs[n] := by omega
      simp [mayOne, this]
    · simp [mayOne, h3]
    · have : xs[n] ∈ seen := by simpa using h4
      simp [mayOne, this]
    · have h6 : ¬ xs[n] ∈ seen := by simpa using h4
      have h0 : 0 ≤ findT l xs[n] := by omega
      simp [mayOne, h0, h3, h6]
theorem iMayJudge_ev (l : List Tm) (id club : Int) (seen : List Int) (a b : Int) (hs : Small l) (hj : seen.length ≤ 1099511627776) : Ev (fun k => impl_MayJudge.f k l id club seen a b) (mayJ l club seen a b) := by
  unfold impl_MayJudge.f
  refine Ev.bnd rfl (Ev.cast (iMayJ_l0 l id club seen [a, b] hs hj (by simp) 2 0 rfl) ?_)
  simp [mayJ]
theorem sAreTeams_ev (l : List Tm) (hs : Small l) : Ev (fun k => spec_AreTeams.f k l) (areT l) := by
  unfold spec_AreTeams.f
  exact Ev.pos (of_small hs) (Ev.now _)
theorem iAreTeams_ev (l : List Tm) (hs : Small l) : Ev (fun k => impl_AreTeams.f k l) (areT l) := by
  unfold impl_AreTeams.f
  exact Ev.pos (of_small hs) (Ev.now _)
abbrev Pr := S48
def seatL (g : List Int → List Int × Bool) (ok : Jg → Bool) (used : List Int) : List Jg → List Int × Bool
  | [] => ([], false)
  | j :: js => if j.f0 ∈ used then seatL g ok used js else if ok j = true then (if (g (used ++ [j.f0])).2 = true then (j.f0 :: (g (used ++ [j.f0])).1, true) else seatL g ok used js) else seatL g ok used js
def seatR (t : List Tm) (l : List Jg) : List Pr → List Int → List Int × Bool
  | [], _ => ([], true)
  | p :: r, used => seatL (seatR t l r) (fun j => mayJ t j.f1 j.f2 p.f0 p.f1) used l
theorem seatL_len (g : List Int → List Int × Bool) (ok : Jg → Bool) (used : List Int) (m : Nat) (hg : ∀ u, (g u).1.length ≤ m) : ∀ l : List Jg, (seatL g ok used l).1.length ≤ m + 1
  | [] => by simp [seatL]
  | j :: js => by
    have := seatL_len g ok used m hg js
    simp only [seatL]
    split
    · exact this
    · split
      · split
        · have := hg (used ++ [j.f0])
          simp only [List.length_cons]; omega
        · exact this
      · exact this
theorem seatR_len (t : List Tm) (l : List Jg) : ∀ (r : List Pr) (used : List Int), (seatR t l r used).1.length ≤ r.length
  | [], _ => by simp [seatR]
  | p :: r, used => seatL_len _ _ _ r.length (seatR_len t l r) l
theorem rdPr0 {p : Pr} {r : List Pr} : rd_T48 (p :: r) 0 = p := by simp [rd_T48]
theorem iSeat_l0 (t : List Tm) (l : List Jg) (hs : Small t) (hj : SmallJ l) (p : Pr) (r : List Pr) (used : List Int) (hu : r.length ≤ 1099511627776)
    (ih : ∀ u : List Int, u.length ≤ used.length + 1 → Ev (fun k => impl_seated.f k t l r u) (seatR t l r u)) (hr : used.length ≤ 1099511627776) :
    ∀ (d n : Nat), n + d = l.length → Ev (fun k => impl_seated.l0 k t l (p :: r) used l (l.length : Int) (n : Int)) (seatL (seatR t l r) (fun j => mayJ t j.f1 j.f2 p.f0 p.f1) used (l.drop n)) := by
  intro d
  have hlen := hj.1
  induction d with
  | zero =>
    intro n hd
    refine Ev.step (fun k => impl_seated.l0.eq_2 ..) (Ev.neg (by omega) (Ev.some_ ?_))
    rw [List.drop_eq_nil_of_le (by omega)]
    rfl
  | succ d ihd =>
    intro n hd
    have hn : n < l.length := by omega
    have hrest := ihd (n + 1) (by omega)
    have hjt : ∀ (a b : Int) (c : List Int), Ev (fun k => impl_seated.j1 k t l (p :: r) used l (l.length : Int) (n : Int) true a b c) (seatL (seatR t l r) (fun j => mayJ t j.f1 j.f2 p.f0 p.f1) used (l.drop (n + 1))) := by
      intro a b c
      refine Ev.step (fun k => impl_seated.j1.eq_2 ..) (Ev.pos rfl ?_)
      rw [w64s (show n < 4611686018427387904 by omega)]
      exact hrest
    refine Ev.step (fun k => impl_seated.l0.eq_2 ..) (Ev.pos (by omega) (Ev.pos (by omega) (Ev.pos (by omega) ?_)))
    simp only [rdJg hn, rdPr0]
    refine Ev.bind (Contains_ev _ _ hr) ?_
    rw [List.drop_eq_getElem_cons hn, seatL]
    refine Ev.ite (fun h => ?_) (fun h => ?_)
    · rw [if_pos (of_decide_eq_true h)]
      exact hjt _ _ _
    · rw [if_neg (by simpa using h)]
      refine Ev.pos (by simp) (Ev.bind (iMayJudge_ev t l[n].f0 l[n].f1 l[n].f2 p.f0 p.f1 hs (hj.2 _ (List.getElem_mem hn))) ?_)
      cases hm : mayJ t l[n].f1 l[n].f2 p.f0 p.f1 with
      | false =>
        rw [if_neg (by simp)]
        exact hjt _ _ _
      | true =>
        rw [if_pos rfl]
        refine Ev.step (fun k => impl_seated.j1.eq_2 ..) (Ev.neg (by simp) (Ev.pos (by simp; omega) ?_))
        simp only [w64s (show n < 4611686018427387904 by omega), List.drop_succ_cons, List.drop_zero]
        refine Ev.bnd (a := used) (by unfold slices_Clone_int_int.f; exact if_pos (by omega)) (Ev.bnd (a := [l[n].f0]) rfl (Ev.pos (by simp; omega) ?_))
        have hlr := seatR_len t l r (used ++ [l[n].f0])
        refine Ev.bind (ih (used ++ [l[n].f0]) (by simp)) ?_
        refine Ev.ite (fun h2 => ?_) (fun h2 => ?_)
        · rw [if_pos h2]
          exact Ev.bnd (a := [l[n].f0]) rfl (Ev.pos (by simp; omega) (Ev.now _))
        · rw [if_neg h2]
          exact hrest
theorem iSeat_ev (t : List Tm) (l : List Jg) (hs : Small t) (hj : SmallJ l) : ∀ (r : List Pr) (used : List Int), used.length + r.length ≤ 1048576 → Ev (fun k => impl_seated.f k t l r used) (seatR t l r used)
  | [], used, h => Ev.step (fun k => impl_seated.f.eq_2 ..) (Ev.pos (by simp) (Ev.now _))
  | p :: r, used, h => by
    simp only [List.length_cons] at h
    refine Ev.step (fun k => impl_seated.f.eq_2 ..) (Ev.neg (by simp; omega) ?_)
    have := iSeat_l0 t l hs hj p r used (by omega) (fun u hu => iSeat_ev t l hs hj r u (by omega)) (by omega) l.length 0 (by omega)
    simpa [seatR] using this
theorem nodup_sub_length : ∀ (x y : List Int), x.Nodup → (∀ i ∈ x, i ∈ y) → x.length ≤ y.length
  | [], _, _, _ => Nat.zero_le _
  | a :: x, y, hn, hs => by
    have ha : a ∈ y := hs a List.mem_cons_self
    rw [List.nodup_cons] at hn
    have h1 := nodup_sub_length x (y.erase a) hn.2 (fun i hi => (List.mem_erase_of_ne (fun e => hn.1 (by rw [← e]; exact hi))).2 (hs i (List.mem_cons_of_mem _ hi)))
    rw [List.length_erase_of_mem ha] at h1
    have h2 : 0 < y.length := List.length_pos_of_mem ha
    simp only [List.length_cons]
    omega
def Good (ids used : List Int) (m : Nat) (y : List Int × Bool) : Prop := (y.2 = true → y.1.length = m ∧ y.1.Nodup ∧ ∀ i ∈ y.1, i ∈ ids ∧ i ∉ used) ∧ (y.2 = false → y.1 = [])
theorem seatL_good (ids : List Int) (g : List Int → List Int × Bool) (ok : Jg → Bool) (used : List Int) (m : Nat) (hg : ∀ u, Good ids u m (g u)) : ∀ l : List Jg, (∀ j ∈ l, j.f0 ∈ ids) → Good ids used (m + 1) (seatL g ok used l)
  | [], _ => ⟨fun h => by simp [seatL] at h, fun _ => rfl⟩
  | j :: js, hl => by
    have ih := seatL_good ids g ok used m hg js (fun x hx => hl x (List.mem_cons_of_mem _ hx))
    simp only [seatL]
    split
    · exact ih
    · rename_i hu
      split
      · split
        · rename_i h2
          obtain ⟨h3, h4, h5⟩ := (hg (used ++ [j.f0])).1 h2
          refine ⟨fun _ => ⟨by simp [h3], ?_, fun i hi => ?_⟩, fun h => by cases h⟩
          · rw [List.nodup_cons]
            exact ⟨fun h => (h5 _ h).2 (by simp), h4⟩
          · rcases List.mem_cons.1 hi with rfl | hi
            · exact ⟨hl j List.mem_cons_self, hu⟩
            · exact ⟨(h5 i hi).1, fun h => (h5 i hi).2 (by simp [h])⟩
        · exact ih
      · exact ih
theorem seatR_good (t : List Tm) (l : List Jg) : ∀ (r : List Pr) (used : List Int), Good (l.map (fun j => j.f0)) used r.length (seatR t l r used)
  | [], used => ⟨fun _ => ⟨rfl, List.nodup_nil, fun i hi => by cases hi⟩, fun h => by cases h⟩
  | p :: r, used => seatL_good _ _ _ used r.length (seatR_good t l r) l (fun j hj => List.mem_map.2 ⟨j, hj, rfl⟩)
theorem seatR_over (t : List Tm) (l : List Jg) (r : List Pr) (h : l.length < r.length) : seatR t l r [] = ([], false) := by
  have hg := seatR_good t l r []
  cases e : (seatR t l r []).2 with
  | true =>
    obtain ⟨h1, h2, h3⟩ := hg.1 e
    have := nodup_sub_length _ (l.map (fun j => j.f0)) h2 (fun i hi => (h3 i hi).1)
    rw [h1, List.length_map] at this
    omega
  | false => exact Prod.ext (hg.2 e) e
def seatT (t : List Tm) (l : List Jg) (r : List Pr) : List Int × Bool := if okJudges l = true ∧ areT t = true then seatR t l r [] else ([], false)
theorem seatT_len (t : List Tm) (l : List Jg) (r : List Pr) : (seatT t l r).1.length ≤ r.length := by
  unfold seatT
  split
  · exact seatR_len t l r []
  · simp
theorem iSeatJ_ev (t : List Tm) (l : List Jg) (r : List Pr) (hs : Small t) (hj : SmallJ l) (hr : r.length ≤ 1048576) : Ev (fun k => impl_SeatJudges.f k t l r) (seatT t l r) := by
  unfold impl_SeatJudges.f seatT
  refine Ev.bind (iAreJudges_ev l hj) ?_
  refine Ev.ite (fun h1 => ?_) (fun h1 => Ev.some_ (if_neg (fun h => h1 h.1)).symm)
  refine Ev.bind (iAreTeams_ev t hs) ?_
  refine Ev.ite (fun h2 => ?_) (fun h2 => Ev.some_ (if_neg (fun h => h2 h.2)).symm)
  refine Ev.ite (fun h3 => Ev.some_ ?_) (fun h3 => ?_)
  · rw [if_pos ⟨h1, h2⟩, seatR_over t l r (by omega)]
  · exact Ev.bind (iSeat_ev t l hs hj r [] (by simpa using hr)) (Ev.some_ (if_pos ⟨h1, h2⟩).symm)
def findJ (l : List Jg) (id : Int) : Int := fidx (fun j => decide (j.f0 = id)) l
theorem findJ_range (l : List Jg) (id : Int) : -1 ≤ findJ l id ∧ findJ l id < l.length := fidx_range _ l
theorem rdJg_int {l : List Jg} {i : Int} (h0 : 0 ≤ i) (h1 : i < l.length) : ∃ h : i.toNat < l.length, rd_T46 l i = l[i.toNat] := by
  refine ⟨by omega, ?_⟩
  obtain ⟨m, rfl⟩ : ∃ m : Nat, i = m := ⟨i.toNat, by omega⟩
  rw [rdJg (by omega)]
  simp
theorem rdJg_mem {l : List Jg} {i : Int} (h0 : 0 ≤ i) (h1 : i < l.length) : rd_T46 l i ∈ l := by
  obtain ⟨h, e⟩ := rdJg_int h0 h1
  rw [e]
  exact List.getElem_mem _
def asOk (t : List Tm) (l : List Jg) : List S48 → List Int → List Int → Bool
  | p :: rs, id :: ids, seen =>
    if findJ l id < 0 then false
    else if id ∈ seen then false
    else if mayJ t (rd_T46 l (findJ l id)).f1 (rd_T46 l (findJ l id)).f2 p.f0 p.f1 = true then asOk t l rs ids (seen ++ [id]) else false
  | _, _, _ => true
theorem asF_ev (t : List Tm) (l : List Jg) (hs : Small t) (hj : SmallJ l) : ∀ (r : List S48) (ids seen : List Int), Ev (fun k => asF k t l r ids seen) (asOk t l r ids seen)
  | [], ids, seen => by simp only [asF, asOk]; exact Ev.now _
  | p :: rs, [], seen => by simp only [asF, asOk]; exact Ev.now _
  | p :: rs, id :: ids, seen => by
    have hr := findJ_range l id
    have e : fidx (fun j : Jg => decide (j.f0 = id)) l = findJ l id := rfl
    simp only [asF, asOk, e]
    refine Ev.ite (fun h => Ev.some_ (if_pos h).symm) (fun h => ?_)
    rw [if_neg h]
    refine Ev.ite (fun h2 => Ev.some_ (if_pos h2).symm) (fun h2 => ?_)
    rw [if_neg h2]
    refine Ev.bind (iMayJudge_ev t _ _ _ p.f0 p.f1 hs (hj.2 _ (rdJg_mem (by omega) hr.2))) ?_
    exact Ev.ite (fun h3 => Ev.cast (asF_ev t l hs hj rs ids (seen ++ [id])) (if_pos h3).symm) (fun h3 => Ev.some_ (if_neg h3).symm)
def seatedB (t : List Tm) (l : List Jg) (r : List S48) (ids : List Int) : Bool := decide (ids.length = r.length) && (okJudges l && asOk t l r ids [])
theorem iAreSeated_ev (t : List Tm) (l : List Jg) (hs : Small t) (hj : SmallJ l) (r : List S48) (ids : List Int) : Ev (fun k => impl_AreSeated.f k t l r ids) (seatedB t l r ids) := by
  unfold impl_AreSeated.f seatedB
  refine Ev.bind (iAreJudges_ev l hj) (Ev.ite (fun h => Ev.ite (fun h2 => Ev.cast (asF_ev t l hs hj r ids []) ?_) (fun h2 => Ev.some_ ?_)) (fun h => Ev.some_ ?_))
  · simp [h, h2]
  · simp [h2]
  · simp [h]
def freeJ (ids : List Int) : List Jg → List Int
  | [] => []
  | j :: r => if j.f0 ∈ ids then freeJ ids r else j.f0 :: freeJ ids r
theorem freeJ_length (ids : List Int) : ∀ l : List Jg, (freeJ ids l).length ≤ l.length
  | [] => Nat.le_refl _
  | j :: r => by
    have := freeJ_length ids r
    simp only [freeJ]
    split
    · simp only [List.length_cons]; omega
    · simp only [List.length_cons]; omega
theorem iFree_l0 (l : List Jg) (ids : List Int) (hl : l.length ≤ 1099511627776) (hi : ids.length ≤ 1099511627776) : ∀ (d n : Nat) (acc : List Int), n + d = l.length → acc.length ≤ n → Ev (fun k => impl_FreeJudges.l0 k ids acc l (l.length : Int) (n : Int)) (acc ++ freeJ ids (l.drop n)) := by
  intro d
  induction d with
  | zero =>
    intro n acc hd ha
    refine Ev.step (fun k => impl_FreeJudges.l0.eq_2 ..) (Ev.neg (by omega) (Ev.some_ ?_))
    rw [List.drop_eq_nil_of_le (by omega)]
    simp [freeJ]
  | succ d ih =>
    intro n acc hd ha
    have hn : n < l.length := by omega
    refine Ev.step (fun k => impl_FreeJudges.l0.eq_2 ..) (Ev.pos (by omega) (Ev.pos (by omega) (Ev.pos (by omega) ?_)))
    simp only [w64s (show n < 4611686018427387904 by omega), rdJg hn]
    refine Ev.bind (Contains_ev _ _ hi) ?_
    rw [List.drop_eq_getElem_cons hn, freeJ]
    refine Ev.ite (fun h => ?_) (fun h => ?_)
    · rw [if_pos (of_decide_eq_true h)]
      exact ih (n + 1) acc (by omega) (by omega)
    · rw [if_neg (by simpa using h)]
      refine Ev.pos (by omega) ?_
      have := ih (n + 1) (acc ++ [l[n].f0]) (by omega) (by simp; omega)
      simpa using this
theorem iFree_ev (l : List Jg) (ids : List Int) (hl : l.length ≤ 1099511627776) (hi : ids.length ≤ 1099511627776) : Ev (fun k => impl_FreeJudges.f k l ids) (freeJ ids l) := by
  unfold impl_FreeJudges.f
  exact iFree_l0 l ids hl hi l.length 0 [] (by omega) (by simp)
theorem contains_l0 (l : List Int) (x : Int) (hl : l.length ≤ 1099511627776) : ∀ (d n : Nat), n + d = l.length → Ev (fun k => laws_contains.l0 k l x (n : Int)) (decide (x ∈ l.drop n)) := by
  intro d
  induction d with
  | zero =>
    intro n hd
    refine Ev.step (fun k => laws_contains.l0.eq_2 ..) (Ev.neg (by omega) (Ev.some_ ?_))
    rw [List.drop_eq_nil_of_le (by omega)]
    simp
  | succ d ih =>
    intro n hd
    have hn : n < l.length := by omega
    refine Ev.step (fun k => laws_contains.l0.eq_2 ..) (Ev.pos (by omega) (Ev.pos (by omega) ?_))
    simp only [w64s (show n < 4611686018427387904 by omega), rd_at hn]
    rw [List.drop_eq_getElem_cons hn]
    refine Ev.ite (fun h => Ev.some_ ?_) (fun h => Ev.cast (ih (n + 1) (by omega)) ?_)
    · exact (decide_eq_true (by rw [← h]; exact List.mem_cons_self)).symm
    · have h2 : ¬ x = l[n] := fun e => h e.symm
      exact decide_eq_decide.2 ⟨fun hm => List.mem_cons_of_mem _ hm, fun hm => (List.mem_cons.1 hm).resolve_left h2⟩
theorem contains_ev (l : List Int) (x : Int) (hl : l.length ≤ 1099511627776) : Ev (fun k => laws_contains.f k l x) (decide (x ∈ l)) := by
  unfold laws_contains.f
  exact Ev.cast (contains_l0 l x hl l.length 0 (by omega)) (by simp)
theorem judgesF_asc : ∀ (l : List Jg) (p : Int), judgesF p l = true → (∀ j ∈ l, p < j.f0) ∧ l.Pairwise (fun a b => a.f0 < b.f0)
  | [], p, _ => ⟨fun j hj => by simp at hj, List.Pairwise.nil⟩
  | x :: l, p, h => by
    simp only [judgesF, Bool.and_eq_true, decide_eq_true_eq] at h
    obtain ⟨⟨⟨⟨_, h2⟩, _⟩, _⟩, h3⟩ := h
    obtain ⟨i1, i2⟩ := judgesF_asc l x.f0 h3
    refine ⟨fun j hj => ?_, List.pairwise_cons.2 ⟨i1, i2⟩⟩
    rcases List.mem_cons.1 hj with rfl | hj
    · exact h2
    · have := i1 j hj
      omega
theorem findJ_own {l : List Jg} (h : okJudges l = true) {j : Jg} (hj : j ∈ l) : 0 ≤ findJ l j.f0 ∧ rd_T46 l (findJ l j.f0) = j := by
  unfold okJudges at h
  simp only [Bool.and_eq_true, decide_eq_true_eq] at h
  have hp := List.pairwise_iff_getElem.1 (judgesF_asc l 0 h.1).2
  have hr := findJ_range l j.f0
  by_cases hn : findJ l j.f0 < 0
  · have := fidx_neg (fun x : Jg => decide (x.f0 = j.f0)) l hn j hj
    simp at this
  · obtain ⟨q, eq⟩ : ∃ q : Nat, findJ l j.f0 = (q : Int) := ⟨(findJ l j.f0).toNat, by omega⟩
    have hql : q < l.length := by omega
    have hqv : (l[q]).f0 = j.f0 := by
      obtain ⟨hl, hq⟩ := fidx_at (fun x : Jg => decide (x.f0 = j.f0)) l (by show 0 ≤ findJ l j.f0; omega)
      have e : (fidx (fun x : Jg => decide (x.f0 = j.f0)) l).toNat = q := by
        show (findJ l j.f0).toNat = q
        omega
      simp only [e] at hq
      exact of_decide_eq_true hq
    refine ⟨by omega, ?_⟩
    rw [eq, rdJg hql]
    obtain ⟨m, hm, em⟩ := List.getElem_of_mem hj
    have emv : (l[m]).f0 = j.f0 := by rw [em]
    rcases Nat.lt_trichotomy q m with h1 | h1 | h1
    · have := hp q m hql hm h1
      omega
    · subst h1
      exact em
    · have := hp m q hm hql h1
      omega
theorem seatL_ok (t : List Tm) (l : List Jg) (hu : okJudges l = true) (p : Pr) (r : List Pr) (used : List Int) (ih : ∀ u, (seatR t l r u).2 = true → asOk t l r (seatR t l r u).1 u = true) :
    ∀ js : List Jg, (∀ j ∈ js, j ∈ l) → (seatL (seatR t l r) (fun j => mayJ t j.f1 j.f2 p.f0 p.f1) used js).2 = true → asOk t l (p :: r) (seatL (seatR t l r) (fun j => mayJ t j.f1 j.f2 p.f0 p.f1) used js).1 used = true
  | [], _, h => by simp [seatL] at h
  | j :: js, hs, h => by
    have hrest := seatL_ok t l hu p r used ih js (fun x hx => hs x (List.mem_cons_of_mem _ hx))
    rw [seatL] at h ⊢
    by_cases h1 : j.f0 ∈ used
    · rw [if_pos h1] at h ⊢
      exact hrest h
    · rw [if_neg h1] at h ⊢
      by_cases h2 : mayJ t j.f1 j.f2 p.f0 p.f1 = true
      · rw [if_pos h2] at h ⊢
        by_cases h3 : (seatR t l r (used ++ [j.f0])).2 = true
        · rw [if_pos h3]
          obtain ⟨q0, q1⟩ := findJ_own hu (hs j List.mem_cons_self)
          simp only [asOk]
          rw [if_neg (by omega), if_neg h1, q1, if_pos h2]
          exact ih _ h3
        · rw [if_neg h3] at h ⊢
          exact hrest h
      · rw [if_neg h2] at h ⊢
        exact hrest h
theorem seatR_ok (t : List Tm) (l : List Jg) (hu : okJudges l = true) : ∀ (r : List Pr) (used : List Int), (seatR t l r used).2 = true → asOk t l r (seatR t l r used).1 used = true
  | [], used, _ => by simp [asOk]
  | p :: r, used, h => by
    rw [seatR] at h ⊢
    exact seatL_ok t l hu p r used (seatR_ok t l hu r) l (fun _ hj => hj) h
theorem seatT_facts (t : List Tm) (l : List Jg) (r : List Pr) : ((seatT t l r).2 = true → seatedB t l r (seatT t l r).1 = true) ∧ ((seatT t l r).2 = false → (seatT t l r).1 = []) ∧ ∀ i ∈ (seatT t l r).1, True := by
  refine ⟨fun h => ?_, fun h => ?_, fun _ _ => trivial⟩
  · unfold seatT at h ⊢
    split at h
    · rename_i hc
      rw [if_pos hc]
      have hg := (seatR_good t l r []).1 h
      unfold seatedB
      simp only [Bool.and_eq_true, decide_eq_true_eq]
      exact ⟨hg.1, hc.1, seatR_ok t l hc.1 r [] h⟩
    · simp at h
  · unfold seatT at h ⊢
    split at h
    · rename_i hc
      rw [if_pos hc]
      exact (seatR_good t l r []).2 h
    · rename_i hc
      rw [if_neg hc]
theorem seating_l0 (t : List Tm) (l : List Jg) (hs : Small t) (hj : SmallJ l) (p : Pr) (r : List Pr) (used : List Int) (hu : r.length ≤ 1099511627776)
    (ih : ∀ u : List Int, u.length ≤ used.length + 1 → Ev (fun k => laws_seating.f k t l r u) (seatR t l r u).2) (hr : used.length ≤ 1099511627776) :
    ∀ (d n : Nat), n + d = l.length → Ev (fun k => laws_seating.l0 k t l (p :: r) used (n : Int)) (seatL (seatR t l r) (fun j => mayJ t j.f1 j.f2 p.f0 p.f1) used (l.drop n)).2 := by
  intro d
  have hlen := hj.1
  induction d with
  | zero =>
    intro n hd
    refine Ev.step (fun k => laws_seating.l0.eq_2 ..) (Ev.neg (by omega) (Ev.some_ ?_))
    rw [List.drop_eq_nil_of_le (by omega)]
    rfl
  | succ d ihd =>
    intro n hd
    have hn : n < l.length := by omega
    have hrest := ihd (n + 1) (by omega)
    refine Ev.step (fun k => laws_seating.l0.eq_2 ..) (Ev.pos (by omega) (Ev.pos (by omega) ?_))
    simp only [rdJg hn, rdPr0, w64s (show n < 4611686018427387904 by omega), Option.bind_some, List.nil_append, List.drop_succ_cons, List.drop_zero]
    refine Ev.bind (contains_ev _ _ hr) ?_
    rw [List.drop_eq_getElem_cons hn, seatL]
    refine Ev.ite (fun h => ?_) (fun h => ?_)
    · rw [if_pos (of_decide_eq_true h)]
      exact hrest
    · rw [if_neg (by simpa using h)]
      refine Ev.pos (by simp) (Ev.bind (iMayJudge_ev t l[n].f0 l[n].f1 l[n].f2 p.f0 p.f1 hs (hj.2 _ (List.getElem_mem hn))) ?_)
      refine Ev.ite (fun h2 => ?_) (fun h2 => ?_)
      · rw [if_pos h2]
        refine Ev.pos (by simp; omega) (Ev.pos (by simp; omega) (Ev.pos (by simp; omega) ?_))
        refine Ev.bind (ih (used ++ [l[n].f0]) (by simp)) (Ev.ite (fun h3 => Ev.some_ (by rw [if_pos h3])) (fun h3 => ?_))
        rw [if_neg h3]
        exact hrest
      · rw [if_neg h2]
        exact hrest
theorem seating_ev (t : List Tm) (l : List Jg) (hs : Small t) (hj : SmallJ l) : ∀ (r : List Pr) (used : List Int), used.length + r.length ≤ 1048576 → Ev (fun k => laws_seating.f k t l r used) (seatR t l r used).2
  | [], used, h => Ev.step (fun k => laws_seating.f.eq_2 ..) (Ev.pos (by simp) (Ev.now _))
  | p :: r, used, h => by
    simp only [List.length_cons] at h
    refine Ev.step (fun k => laws_seating.f.eq_2 ..) (Ev.neg (by simp; omega) ?_)
    have := seating_l0 t l hs hj p r used (by omega) (fun u hu => seating_ev t l hs hj r u (by omega)) (by omega) l.length 0 (by omega)
    simpa [seatR] using this
theorem mem_freeJ (s : List Int) : ∀ (l : List Jg) (i : Int), i ∈ freeJ s l ↔ (∃ j ∈ l, j.f0 = i) ∧ i ∉ s
  | [], i => by simp [freeJ]
  | j :: l, i => by
    rw [freeJ]
    split
    · rename_i h
      rw [mem_freeJ s l i]
      constructor
      · rintro ⟨⟨x, hx, e⟩, hn⟩
        exact ⟨⟨x, List.mem_cons_of_mem _ hx, e⟩, hn⟩
      · rintro ⟨⟨x, hx, e⟩, hn⟩
        rcases List.mem_cons.1 hx with rfl | hx
        · exact absurd (e ▸ h) hn
        · exact ⟨⟨x, hx, e⟩, hn⟩
    · rename_i h
      rw [List.mem_cons, mem_freeJ s l i]
      constructor
      · rintro (rfl | ⟨⟨x, hx, e⟩, hn⟩)
        · exact ⟨⟨j, List.mem_cons_self, rfl⟩, h⟩
        · exact ⟨⟨x, List.mem_cons_of_mem _ hx, e⟩, hn⟩
      · rintro ⟨⟨x, hx, e⟩, hn⟩
        rcases List.mem_cons.1 hx with rfl | hx
        · exact .inl e.symm
        · exact .inr ⟨⟨x, hx, e⟩, hn⟩
theorem bits255 (x : Int) : 0 ≤ Go.bits .and .i64 x 255 ∧ Go.bits .and .i64 x 255 ≤ 255 := by
  have h : ((BitVec.ofInt 64 x) &&& (BitVec.ofInt 64 255)).toNat ≤ 255 := by
    rw [BitVec.toNat_and]
    exact Nat.le_trans Nat.and_le_right (by decide)
  show 0 ≤ IntKind.i64.wrap (((BitVec.ofInt 64 x) &&& (BitVec.ofInt 64 255)).toNat : Int) ∧ IntKind.i64.wrap (((BitVec.ofInt 64 x) &&& (BitVec.ofInt 64 255)).toNat : Int) ≤ 255
  generalize ((BitVec.ofInt 64 x) &&& (BitVec.ofInt 64 255)).toNat = t at h ⊢
  rw [IntKind.wrap_i64]
  omega
def At (b : List Int) (i : Int) : Prop := b.length ≤ 1099511627776 ∧ 0 ≤ i ∧ i ≤ b.length
theorem Byte_eq (b : List Int) (i h : Int) (ha : At b i) : ∃ r i' h', spec_l1Byte.f b i h = some (r, i', h') ∧ 0 ≤ r ∧ r ≤ 255 ∧ At b i' := by
  unfold spec_l1Byte.f
  obtain ⟨hl, h0, h1⟩ := ha
  by_cases hlt : i < (b.length : Int)
  · rw [if_pos hlt, if_pos h0, w64 (x := i + 1) (by omega) (by omega)]
    refine ⟨_, _, _, rfl, (bits255 _).1, (bits255 _).2, hl, by omega, by omega⟩
  · rw [if_neg hlt]
    exact ⟨_, _, _, rfl, (bits255 _).1, (bits255 _).2, hl, h0, h1⟩
theorem Below_eq (b : List Int) (i h n : Int) (ha : At b i) : ∃ r i' h', spec_l1Below.f b i h n = some (r, i', h') ∧ 0 ≤ r ∧ (0 < n → r < n) ∧ (n ≤ 0 → r = 0) ∧ At b i' := by
  unfold spec_l1Below.f
  by_cases h0 : n ≤ 0
  · rw [if_pos h0]
    exact ⟨_, _, _, rfl, by omega, by omega, fun _ => rfl, ha⟩
  · rw [if_neg h0]
    by_cases h1 : n ≤ 256
    · rw [if_pos h1]
      obtain ⟨r, i1, h2, e, hr0, hr1, ha1⟩ := Byte_eq b i h ha
      rw [e]
      simp only [Option.bind_some]
      rw [if_neg (by omega)]
      refine ⟨_, _, _, rfl, ?_, fun _ => ?_, fun hn => absurd hn h0, ha1⟩
      · exact Int.tmod_nonneg _ hr0
      · exact Int.tmod_lt_of_pos _ (by omega)
    · rw [if_neg h1]
      obtain ⟨r, i1, h2, e, hr0, hr1, ha1⟩ := Byte_eq b i h ha
      rw [e]
      simp only [Option.bind_some]
      obtain ⟨r3, i3, h3, e3, hr30, hr31, ha3⟩ := Byte_eq b i1 h2 ha1
      rw [e3]
      simp only [Option.bind_some]
      obtain ⟨r4, i4, h4, e4, hr40, hr41, ha4⟩ := Byte_eq b i3 h3 ha3
      rw [e4]
      simp only [Option.bind_some]
      rw [if_neg (by omega)]
      refine ⟨_, _, _, rfl, ?_, fun _ => ?_, fun hn => absurd hn h0, ha4⟩
      · refine Int.tmod_nonneg _ ?_
        rw [w64 (x := r * 65536) (by omega) (by omega), w64 (x := r3 * 256) (by omega) (by omega), w64 (x := r * 65536 + r3 * 256) (by omega) (by omega), w64 (by omega) (by omega)]
        omega
      · exact Int.tmod_lt_of_pos _ (by omega)
theorem DInt_eq (b : List Int) (i h : Int) (l : List Int) (hl : 0 < l.length) (ha : At b i) : ∃ r i' h', spec_l1Int.f b i h l = some (r, i', h') ∧ r ∈ l ∧ At b i' := by
  unfold spec_l1Int.f
  obtain ⟨r, i1, h2, e, h0, h1, _, ha1⟩ := Below_eq b i h l.length ha
  rw [e]
  simp only [Option.bind_some]
  rw [if_pos h0, if_pos (h1 (by omega))]
  refine ⟨_, _, _, rfl, ?_, ha1⟩
  have hr := h1 (by omega)
  obtain ⟨m, rfl⟩ : ∃ m : Nat, r = m := ⟨r.toNat, by omega⟩
  rw [rd_at (show m < l.length by omega)]
  exact List.getElem_mem _
theorem New_l0 (b : List Int) (hl : b.length ≤ 1099511627776) : ∀ (d n : Nat) (h : Int), n + d = b.length → ∃ h', Ev (fun k => spec_l1New.l0 k b h (n : Int)) (b, 0, h') := by
  intro d
  induction d with
  | zero =>
    intro n h hd
    exact ⟨_, Ev.step (fun k => spec_l1New.l0.eq_2 ..) (Ev.neg (by omega) (Ev.now _))⟩
  | succ d ih =>
    intro n h hd
    by_cases h4 : (n : Int) < 4000
    · obtain ⟨h', e⟩ := ih (n + 1) (Go.bits .and .i64 (wrap64 ((wrap64 ((wrap64 (h * 137)) + (wrap64 (rd b n)))) + 11)) 1073741823) (by omega)
      refine ⟨h', Ev.step (fun k => spec_l1New.l0.eq_2 ..) (Ev.pos (by omega) (Ev.pos h4 (Ev.pos (by omega) ?_)))⟩
      simp only [w64s (show n < 4611686018427387904 by omega)]
      exact e
    · exact ⟨_, Ev.step (fun k => spec_l1New.l0.eq_2 ..) (Ev.pos (by omega) (Ev.neg h4 (Ev.now _)))⟩
theorem New_ev (b : List Int) (hl : b.length ≤ 1099511627776) : ∃ h, Ev (fun k => spec_l1New.f k b) (b, 0, h) := by
  unfold spec_l1New.f
  exact New_l0 b hl b.length 0 _ (by omega)
theorem big_eq (b : List Int) : laws_big.f b = some (decide ((b.length : Int) > 1048576)) := rfl
theorem Once_eq (b : List Int) (i h n : Int) (ha : At b i) : ∃ r i' h', spec_l1Once.f b i h n = some (r, i', h') ∧ At b i' := by
  unfold spec_l1Once.f
  obtain ⟨r, i1, h2, e, _, _, _, ha1⟩ := Below_eq b i h n ha
  rw [e]
  exact ⟨_, _, _, rfl, ha1⟩
theorem l4Has_l0 (l : List Int) (x : Int) (hl : l.length ≤ 1099511627776) : ∀ (d n : Nat), n + d = l.length → Ev (fun k => spec_l4Has.l0 k l x (n : Int)) (decide (x ∈ l.drop n)) := by
  intro d
  induction d with
  | zero =>
    intro n hd
    refine Ev.step (fun k => spec_l4Has.l0.eq_2 ..) ?_
    refine Ev.neg (by omega) (Ev.some_ ?_)
    rw [List.drop_eq_nil_of_le (by omega)]
    simp
  | succ d ih =>
    intro n hd
    refine Ev.step (fun k => spec_l4Has.l0.eq_2 ..) ?_
    refine Ev.pos (by omega) (Ev.pos (by omega) ?_)
    simp only [w64s (show n < 4611686018427387904 by omega), rd_at (show n < l.length by omega)]
    have h1 := ih (n + 1) (by omega)
    rw [List.drop_eq_getElem_cons (show n < l.length by omega)]
    generalize l.drop (n + 1) = u at h1 ⊢
    refine Ev.ite (fun h => Ev.some_ ?_) (fun h => Ev.cast h1 ?_)
    · simp [h]
    · have h' : ¬ x = l[n] := fun e => h e.symm
      simp [h']
theorem l4Has_ev (l : List Int) (x : Int) (hl : l.length ≤ 1099511627776) : Ev (fun k => spec_l4Has.f k l x) (decide (x ∈ l)) := by
  unfold spec_l4Has.f
  exact Ev.cast (l4Has_l0 l x hl l.length 0 (by omega)) (by simp)
end Go.Proofs.Ytdlebbmmanjffaa.L
end
section
namespace Go.Proofs.Ytdlebbmmanjffaa.A
open Go.RowKit Go.Proofs.YtdlebbmmanjffaaW.PrintWords Go.Proofs.YtdlebbmmanjffaaW.PrintLast Go.Proofs.YtdlebbmmanjffaaW.PrintMore
attribute [local go_sem] max2_int min2_int max_two min_two max_three min_three max_four min_four
set_option linter.unusedVariables false
set_option linter.unusedSimpArgs false
def impl_HaveMet.f (k : Nat) (l0 : List (S78)) (a1 : Int) (a2 : Int) : Option (Bool) := (impl_FindTeam.f l0 a1).bind fun t558 => (if t558 ≥ 0 then (if 0 ≤ t558 then (if t558 < (l0.length : Int) then ((slices_Contains_int_int.f k ((rd_T78 l0 t558).f5) a2).bind fun t560 => (some t560)) else (none)) else (none)) else (some false))
end Go.Proofs.Ytdlebbmmanjffaa.A
end
section
set_option linter.unusedVariables false
set_option linter.unusedSimpArgs false
namespace Go.Proofs.Ytdlebbmmanjffaa.L
open Go Go.RowKit Go.Proofs.Ytdlebbmmanjffaa.A Go.Proofs.YtdlebbmmanjffaaW.PrintWords
def metT (l : List Tm) (a b : Int) : Bool := decide (0 ≤ findT l a ∧ b ∈ (rd_T78 l (findT l a)).f5)
theorem sHaveMet_ev (l : List Tm) (a b : Int) (hs : Small l) : Ev (fun k => spec_HaveMet.f k l a b) (metT l a b) := by
  unfold spec_HaveMet.f metT
  have hr := findT_range l a
  refine Ev.bind (sFindTeam_ev l a hs.1) (Ev.ite (fun h => Ev.pos (by omega) (Ev.pos hr.2 (Ev.bind (l4Has_ev _ b (hs.2 _ (rdTm_mem (by omega) hr.2))) (Ev.some_ ?_)))) (fun h => Ev.some_ ?_))
  · have : 0 ≤ findT l a := by omega
    simp [this]
  · have : ¬ 0 ≤ findT l a := by omega
    simp [this]
end Go.Proofs.Ytdlebbmmanjffaa.L
end
section
namespace Go.Proofs.Ytdlebbmmanjffaa.A
open Go.RowKit Go.Proofs.YtdlebbmmanjffaaW.PrintWords Go.Proofs.YtdlebbmmanjffaaW.PrintLast Go.Proofs.YtdlebbmmanjffaaW.PrintMore
attribute [local go_sem] max2_int min2_int max_two min_two max_three min_three max_four min_four
set_option linter.unusedVariables false
set_option linter.unusedSimpArgs false
def impl_MayMeet.f (k : Nat) (l0 : List (S78)) (a1 : Int) (a2 : Int) : Option (Bool) := (impl_FindTeam.f l0 a1).bind fun t561 => ((impl_FindTeam.f l0 a2).bind fun t562 => ((impl_AreTeams.f k l0).bind fun t563 => (if t563 = true then (if t561 ≥ 0 then (if t562 ≥ 0 then (if t561 = t562 then (some false) else (if 0 ≤ t561 then (if t561 < (l0.length : Int) then (if 0 ≤ t562 then (if t562 < (l0.length : Int) then (if ((rd_T78 l0 t561).f1) = ((rd_T78 l0 t562).f1) then (some false) else ((impl_HaveMet.f k l0 a1 a2).bind fun t566 => (some (!t566)))) else (none)) else (none)) else (none)) else (none))) else (some false)) else (some false)) else (some false))))
def impl_MayMeet.T2 : Bool × List (List Nat × List Nat) := (true, [([], []), ([0], [0]), ([1, 1], [1]), ([2], [2]), ([3, 2], [2, 3]), ([2, 4], [2, 4]), ([5, 2], [5]), ([6], [6]), ([7, 6], [6, 7]), ([6, 8], [6, 8]), ([9, 6], [9]), ([10], [10]), ([10], [10]), ([11, 12, 10], [10, 11, 12]), ([10, 13], [10, 13]), ([14, 10], [14]), ([15], [15]), ([15], [15]), ([16, 17, 15], [15, 16, 17]), ([18, 15], [15, 18]), ([19, 15], [15, 19]), ([15], [15]), ([15], [15]), ([21, 22, 15], [15, 21, 22]), ([23, 15], [15, 23]), ([24, 15], [15, 24]), ([20, 25, 15], [15, 20, 25]), ([15, 26], [15, 26]), ([27, 15], [27]), ([28], [28]), ([28], [28]), ([28], [28]), ([29, 30, 31, 28, 28], [28, 29, 30, 31]), ([32, 28], [28, 32]), ([28, 33], [28, 33]), ([34, 32, 0, 1, 2, 3, 4, 5, 6, 7, 8, 9, 10, 11, 12, 13, 14, 15, 16, 17, 18, 19, 20, 21, 22, 23, 24, 25, 26, 27, 28, 29, 30, 31, 32, 33, 34], [34])])
def impl_MayMeet.B2 : List Nat := [0, 1, 3, 7, 15, 31, 63, 127, 255, 511, 1023, 2047, 2047, 8191, 16383, 32767, 65535, 65535, 262143, 524287, 1048575, 65535, 65535, 6356991, 14745599, 31522815, 67108863, 134217727, 268435455, 536870911, 536870911, 536870911, 4294967295, 8589934591, 17179869183, 34359738367]
end Go.Proofs.Ytdlebbmmanjffaa.A
end
section
set_option linter.unusedVariables false
set_option linter.unusedSimpArgs false
namespace Go.Proofs.Ytdlebbmmanjffaa.L
open Go Go.RowKit Go.Proofs.Ytdlebbmmanjffaa.A Go.Proofs.YtdlebbmmanjffaaW.PrintWords
def mayT (l : List Tm) (a b : Int) : Bool :=
  areT l && decide (0 ≤ findT l a) && decide (0 ≤ findT l b) && decide (findT l a ≠ findT l b) && decide ((rdT l (findT l a)).f1 ≠ (rdT l (findT l b)).f1) && !metT l a b
theorem mayT_iff {l : List Tm} {a b : Int} : mayT l a b = true ↔ areT l = true ∧ 0 ≤ findT l a ∧ 0 ≤ findT l b ∧ findT l a ≠ findT l b ∧ (rdT l (findT l a)).f1 ≠ (rdT l (findT l b)).f1 ∧ metT l a b = false := by
  simp only [mayT, Bool.and_eq_true, decide_eq_true_eq, Bool.not_eq_true', and_assoc]
theorem mayT_neg {l : List Tm} {a b : Int} (h : ¬ (areT l = true ∧ 0 ≤ findT l a ∧ 0 ≤ findT l b ∧ findT l a ≠ findT l b ∧ (rdT l (findT l a)).f1 ≠ (rdT l (findT l b)).f1 ∧ metT l a b = false)) : false = mayT l a b := by
  rw [← mayT_iff, Bool.not_eq_true] at h
  exact h.symm
theorem sMayMeet_ev (l : List Tm) (a b : Int) (hs : Small l) : Ev (fun k => spec_MayMeet.f k l a b) (mayT l a b) := by
  unfold spec_MayMeet.f
  have ha := findT_range l a
  have hb := findT_range l b
  refine Ev.bind (sFindTeam_ev l a hs.1) (Ev.bind (sFindTeam_ev l b hs.1) (Ev.bind (sAreTeams_ev l hs) ?_))
  refine Ev.ite (fun h1 => ?_) (fun h1 => Ev.some_ (mayT_neg (fun h => h1 h.1)))
  refine Ev.ite (fun h2 => ?_) (fun h2 => Ev.some_ (mayT_neg (fun h => h2 h.2.1)))
  refine Ev.ite (fun h3 => ?_) (fun h3 => Ev.some_ (mayT_neg (fun h => h3 h.2.2.1)))
  refine Ev.ite (fun h4 => Ev.some_ (mayT_neg (fun h => h.2.2.2.1 h4))) (fun h4 => ?_)
  refine Ev.pos (by omega) (Ev.pos ha.2 (Ev.pos (by omega) (Ev.pos hb.2 ?_)))
  refine Ev.ite (fun h5 => Ev.some_ (mayT_neg (fun h => h.2.2.2.2.1 h5))) (fun h5 => ?_)
  refine Ev.bind (sHaveMet_ev l a b hs) (Ev.some_ ?_)
  cases h6 : metT l a b
  · exact (mayT_iff.2 ⟨h1, h2, h3, h4, h5, h6⟩).symm
  · exact mayT_neg (fun h => by simp [h6] at h)
end Go.Proofs.Ytdlebbmmanjffaa.L
end
section
set_option linter.unusedVariables false
set_option linter.unusedSimpArgs false
namespace Go.Proofs.Ytdlebbmmanjffaa.A
open Go.RowKit Go.Proofs.YtdlebbmmanjffaaW.PrintWords Go.Proofs.YtdlebbmmanjffaaW.PrintLast Go.Proofs.YtdlebbmmanjffaaW.PrintMore Go.Shelf Go.Sort

def RowT (W : World) (g : Nat) (d : Array TmA) : Prop := g < W.heap.size ∧ ∀ (i : Nat) (hi : i < d.size) (j : Nat) (u : Value), (d[i].cells)[j]? = some u → W.cell? ⟨g, i * 6 + j, none⟩ = some u
theorem RowT.step {W W' : World} {g : Nat} {d : Array TmA} (h : RowT W g d) (hs : W.heap.size ≤ W'.heap.size) (he : W'.heap[g]? = W.heap[g]?) : RowT W' g d :=
  ⟨Nat.lt_of_lt_of_le h.1 hs, fun i hi j u hu => by
    have := h.2 i hi j u hu
    simpa [World.cell?, he] using this⟩
def impl_Standing.f (k : Nat) (l0 : List S78) : Option (List Int) := (impl_AreTeams.f k l0).bind fun b => if b = true then (if l0.length ≤ 12 then some ((ordT l0).map (fun t => t.f0)) else none) else some []
end Go.Proofs.Ytdlebbmmanjffaa.A
end
section
set_option linter.unusedVariables false
set_option linter.unusedSimpArgs false
namespace Go.Proofs.Ytdlebbmmanjffaa.L
open Go Go.RowKit Go.Proofs.Ytdlebbmmanjffaa.A Go.Proofs.YtdlebbmmanjffaaW.PrintWords
theorem befB_iff {u v : Tm} : befB u v = true ↔ v.f2 < u.f2 ∨ u.f2 = v.f2 ∧ (v.f3 < u.f3 ∨ u.f3 = v.f3 ∧ u.f0 < v.f0) := befK_iff (u := keyS u) (v := keyS v)
theorem bef_asymm {u v : Tm} (h : befB u v = true) : befB v u = false := by
  rw [Bool.eq_false_iff]
  intro k
  rw [befB_iff] at h k
  omega
theorem bef_total {u v : Tm} (hn : u.f0 ≠ v.f0) (h : befB u v = false) : befB v u = true := by
  rw [Bool.eq_false_iff] at h
  rw [befB_iff]
  rw [Ne, befB_iff] at h
  omega
theorem sBefore_eq (u v : Tm) : spec_l19Before.f u.f0 u.f1 u.f2 u.f3 u.f4 u.f5 v.f0 v.f1 v.f2 v.f3 v.f4 v.f5 = some (befB u v) := by
  unfold spec_l19Before.f
  repeat' split
  all_goals (refine congrArg some ?_; rw [Bool.eq_iff_iff, befB_iff]; simp; omega)
theorem tlT_all {l : List Tm} : ∀ (d n : Nat), tlT l d n = true → (∀ i : Nat, n ≤ i → i < n + d → okT l i = true) ∧ l.length ≤ 10
  | 0, n, h => ⟨fun i h1 h2 => by omega, of_decide_eq_true h⟩
  | d + 1, n, h => by
    simp only [tlT, Bool.and_eq_true] at h
    obtain ⟨h1, h2⟩ := tlT_all d (n + 1) h.2
    refine ⟨fun i hi hd => ?_, h2⟩
    by_cases e : i = n
    · rw [e]; exact h.1
    · exact h1 i (by omega) (by omega)
theorem areT_len {l : List Tm} (h : areT l = true) : l.length ≤ 10 := (tlT_all _ _ h).2
theorem areT_row {l : List Tm} (h : areT l = true) (i : Nat) (hi : i < l.length) : okT l i = true := (tlT_all _ _ h).1 i (by omega) (by omega)
theorem areT_asc {l : List Tm} (h : areT l = true) : ascT l (l.length - 1) := by
  intro i hi
  have h1 := areT_row h (i + 1) (by omega)
  simp only [okT, rowT, Bool.and_eq_true, decide_eq_true_eq] at h1
  have h2 := h1.1.2
  have e : ((i + 1 : Nat) : Int) - 1 = (i : Int) := by omega
  rw [e] at h2
  omega
theorem areT_lt {l : List Tm} (h : areT l = true) : (l.map (fun t => t.f0)).Pairwise (· < ·) := by
  rw [List.pairwise_iff_getElem]
  intro i j hi hj hij
  simp only [List.length_map] at hi hj
  have := ascT_lt (areT_asc h) j i hij (by omega)
  simp only [rdT, rdTm hi, rdTm hj] at this
  simpa using this
theorem areT_nodup {l : List Tm} (h : areT l = true) : (l.map (fun t => t.f0)).Nodup := (areT_lt h).imp (fun h => by omega)
theorem ordT_perm (l : List Tm) : (ordT l).Perm l := List.mergeSort_perm _ _
def addX (x : Tm) (b w p : Int) : Tm := ⟨x.f0, x.f1, if w = 1 then wrap64 (x.f2 + 1) else x.f2, wrap64 (x.f3 + p), wrap64 (x.f4 + 1), x.f5 ++ [b]⟩
def addY (y : Tm) (a w q : Int) : Tm := ⟨y.f0, y.f1, if w = 1 then y.f2 else wrap64 (y.f2 + 1), wrap64 (y.f3 + q), y.f4, y.f5 ++ [a]⟩
def addL (l : List Tm) (a b w p q : Int) : List Tm := (l.set (findT l a).toNat (addX (rdT l (findT l a)) b w p)).set (findT l b).toNat (addY (rdT l (findT l b)) a w q)
def addC (l : List Tm) (a b w p q : Int) : Prop := areT l = true ∧ 0 ≤ findT l a ∧ 0 ≤ findT l b ∧ findT l a ≠ findT l b ∧ inR w 1 2 = true ∧ inR p 0 1000 = true ∧ inR q 0 1000 = true
instance (l : List Tm) (a b w p q : Int) : Decidable (addC l a b w p q) := by unfold addC; infer_instance
def addT (l : List Tm) (a b w p q : Int) : List Tm × Bool := if addC l a b w p q then (if areT (addL l a b w p q) = true then (addL l a b w p q, true) else (l, false)) else (l, false)
theorem addL_len (l : List Tm) (a b w p q : Int) : (addL l a b w p q).length = l.length := by simp [addL]
theorem addT_len (l : List Tm) (a b w p q : Int) : (addT l a b w p q).1.length = l.length := by
  unfold addT
  split
  · split
    · exact addL_len _ _ _ _ _ _
    · rfl
  · rfl
theorem rd_set_ne {l : List Tm} {i j : Int} {v : Tm} (hi : 0 ≤ i) (hj : 0 ≤ j) (h : i ≠ j) : rdT (l.set i.toNat v) j = rdT l j := by
  have : i.toNat ≠ j.toNat := by omega
  simp [rdT, rd_T78, List.getElem?_set_ne this]
theorem rd_set_same {l : List Tm} {i : Int} {v : Tm} (h0 : 0 ≤ i) (h1 : i < l.length) : rdT (l.set i.toNat v) i = v := by
  have : i.toNat < l.length := by omega
  simp [rdT, rd_T78, List.getElem?_set_self this]
def Tiny (n m : Nat) (l : List Tm) : Prop := l.length ≤ n ∧ ∀ x ∈ l, x.f5.length ≤ m
theorem mem_set {l : List Tm} {i : Nat} {v x : Tm} (h : x ∈ l.set i v) : x = v ∨ x ∈ l := by
  rcases List.mem_or_eq_of_mem_set h with h | h
  · exact .inr h
  · exact .inl h
theorem rdT_f5 {l : List Tm} {m : Nat} (h : ∀ x ∈ l, x.f5.length ≤ m) {i : Int} (h0 : 0 ≤ i) (h1 : i < l.length) : (rdT l i).f5.length ≤ m := h _ (rdTm_mem h0 h1)
theorem addT_tiny {n m : Nat} {l : List Tm} (h : Tiny n m l) (a b w p q : Int) : Tiny n (m + 1) (addT l a b w p q).1 := by
  have hw : Tiny n (m + 1) l := ⟨h.1, fun x hx => by have := h.2 x hx; omega⟩
  unfold addT
  split
  · rename_i hc
    obtain ⟨h1, h2, h3, h4, h5, h6, h7⟩ := hc
    split
    · refine ⟨by rw [addL_len]; exact h.1, fun x hx => ?_⟩
      have r1 := findT_range l a
      have r2 := findT_range l b
      unfold addL at hx
      rcases mem_set hx with rfl | hx
      · have := rdT_f5 h.2 h3 r2.2
        simp only [addY, List.length_append, List.length_cons, List.length_nil]
        omega
      · rcases mem_set hx with rfl | hx
        · have := rdT_f5 h.2 h2 r1.2
          simp only [addX, List.length_append, List.length_cons, List.length_nil]
          omega
        · exact hw.2 x hx
    · exact hw
  · exact hw
theorem Tiny.small {n m : Nat} {l : List Tm} (h : Tiny n m l) (hn : n ≤ 1099511627776) (hm : m ≤ 1099511627776) : Small l := ⟨by have := h.1; omega, fun x hx => by have := h.2 x hx; omega⟩
structure Two (l : List Tm) (i j : Int) : Prop where
  i0 : 0 ≤ i
  i1 : i < l.length
  j0 : 0 ≤ j
  j1 : j < l.length
  ne : i ≠ j
def st2 (l : List Tm) (i j : Int) (u v : Tm) : List Tm := (l.set i.toNat u).set j.toNat v
theorem st2_first {l : List Tm} {i j : Int} {u : Tm} (H : Two l i j) : l.set i.toNat u = st2 l i j u (rdT l j) := by
  have h1 := H.j0
  have h2 := H.j1
  have h3 := H.i0
  have h4 := H.ne
  have h5 : i.toNat ≠ j.toNat := by omega
  have hl : j.toNat < l.length := by omega
  have e : rdT l j = l[j.toNat] := by simp [rdT, rd_T78, hl]
  unfold st2
  rw [e]
  apply List.ext_getElem?
  intro q
  by_cases hq : j.toNat = q
  · subst hq
    rw [List.getElem?_set_self (by simpa using hl), List.getElem?_set_ne h5, List.getElem?_eq_getElem hl]
  · rw [List.getElem?_set_ne hq]
theorem st2_rd_i {l : List Tm} {i j : Int} {u v : Tm} (H : Two l i j) : rdT (st2 l i j u v) i = u := by
  unfold st2
  rw [rd_set_ne H.j0 H.i0 H.ne.symm, rd_set_same H.i0 H.i1]
theorem st2_rd_j {l : List Tm} {i j : Int} {u v : Tm} (H : Two l i j) : rdT (st2 l i j u v) j = v := by
  unfold st2
  rw [rd_set_same H.j0 (by simpa using H.j1)]
theorem st2_set_i {l : List Tm} {i j : Int} {u v u' : Tm} (H : Two l i j) : (st2 l i j u v).set i.toNat u' = st2 l i j u' v := by
  have h1 := H.j0
  have h3 := H.i0
  have h4 := H.ne
  have h5 : i.toNat ≠ j.toNat := by omega
  unfold st2
  rw [List.set_comm _ _ (Ne.symm h5), List.set_set]
theorem st2_set_j {l : List Tm} {i j : Int} {u v v' : Tm} (H : Two l i j) : (st2 l i j u v).set j.toNat v' = st2 l i j u v' := by
  unfold st2
  rw [List.set_set]
theorem small_len {l : List Tm} (hs : Small l) {i : Int} (h0 : 0 ≤ i) (h1 : i < l.length) : (rdT l i).f5.length ≤ 1099511627776 := rdT_f5 hs.2 h0 h1
theorem small_addL {l : List Tm} (hs : Small l) (ha : areT l = true) {a b : Int} (w p q : Int) (h1 : 0 ≤ findT l a) (h2 : 0 ≤ findT l b) : Small (addL l a b w p q) := by
  have r1 := findT_range l a
  have r2 := findT_range l b
  have hm : ∀ x ∈ l, x.f5.length ≤ 20 := fun x hx => by
    obtain ⟨n, hn, rfl⟩ := List.getElem_of_mem hx
    have h1 := areT_row ha n hn
    simp only [okT, rowT, Bool.and_eq_true, decide_eq_true_eq] at h1
    have h2 := h1.1.1.2
    simp only [rdT, rdTm hn] at h2
    omega
  refine ⟨by rw [addL_len]; exact hs.1, fun x hx => ?_⟩
  unfold addL at hx
  rcases mem_set hx with rfl | hx
  · have := rdT_f5 hm h2 r2.2
    simp only [addY, List.length_append, List.length_cons, List.length_nil]
    omega
  · rcases mem_set hx with rfl | hx
    · have := rdT_f5 hm h1 r1.2
      simp only [addX, List.length_append, List.length_cons, List.length_nil]
      omega
    · have := hm x hx
      omega
theorem sCopy_l0 (l : List Tm) (hs : Small l) : ∀ (d n : Nat) (acc : List Tm), n + d = l.length → acc = l.take n → Ev (fun k => spec_l19Copy.l0 k l acc (n : Int)) l := by
  have hl := hs.1
  intro d
  induction d with
  | zero =>
    intro n acc hd ha
    refine Ev.step (fun k => spec_l19Copy.l0.eq_2 ..) (Ev.neg (by omega) (Ev.some_ ?_))
    rw [ha, List.take_of_length_le (by omega)]
  | succ d ih =>
    intro n acc hd ha
    have hn : n < l.length := by omega
    have h5 := hs.2 _ (List.getElem_mem hn)
    have hal : acc.length = n := by rw [ha, List.length_take]; omega
    refine Ev.step (fun k => spec_l19Copy.l0.eq_2 ..) (Ev.pos (by omega) (Ev.pos (by omega) (Ev.bnd rfl ?_)))
    simp only [w64s (show n < 4611686018427387904 by omega), rdTm hn, List.nil_append]
    refine Ev.pos (by simp only [List.length_nil]; omega) (Ev.pos (by omega) ?_)
    refine ih (n + 1) _ (by omega) ?_
    rw [List.take_succ_eq_append_getElem hn, ha]
theorem sCopy_ev (l : List Tm) (hs : Small l) : Ev (fun k => spec_l19Copy.f k l) l := by
  unfold spec_l19Copy.f
  exact sCopy_l0 l hs l.length 0 [] (by omega) (by simp)
theorem sAdd_fin (l : List Tm) (a b w p q : Int) (hs : Small l) (hc : addC l a b w p q) : Ev (fun k => spec_AddResult.j1 k l (addL l a b w p q)) (addT l a b w p q) := by
  have hS := small_addL hs hc.1 w p q hc.2.1 hc.2.2.1
  refine Ev.step (fun k => spec_AddResult.j1.eq_2 ..) (Ev.bind (sAreTeams_ev _ hS) ?_)
  unfold addT
  rw [if_pos hc]
  refine Ev.ite (fun h => Ev.some_ (by rw [if_pos h])) (fun h => Ev.bind (sCopy_ev l hs) (Ev.some_ (by rw [if_neg h])))
theorem sAdd_j0 (l : List Tm) (a b w p q : Int) (hs : Small l) (hc : addC l a b w p q) : Ev (fun k => spec_AddResult.j0 k l a b w p q l (findT l a) (findT l b) false) (addT l a b w p q) := by
  have ra := findT_range l a
  have rb := findT_range l b
  have H : Two l (findT l a) (findT l b) := ⟨hc.2.1, ra.2, hc.2.2.1, rb.2, hc.2.2.2.1⟩
  have fin := sAdd_fin l a b w p q hs hc
  have ha5 := small_len hs H.i0 H.i1
  have hb5 := small_len hs H.j0 H.j1
  unfold addL at fin
  generalize findT l a = i at H ra ha5 fin ⊢
  generalize findT l b = j at H rb hb5 fin ⊢
  have fin2 : Ev (fun k => spec_AddResult.j1 k l (st2 l i j (addX (rdT l i) b w p) (addY (rdT l j) a w q))) (addT l a b w p q) := fin
  refine Ev.step (fun k => spec_AddResult.j0.eq_2 ..) (Ev.neg (by simp) (Ev.pos H.i0 (Ev.pos H.i1 (Ev.pos (show (rdT l i).f5.length < _ by omega) ?_))))
  refine Ev.bnd (congrArg some (st2_first H)) (Ev.pos H.j0 (Ev.pos H.j1 (Ev.pos (show (rdT (st2 l i j _ _) j).f5.length < _ by rw [st2_rd_j H]; omega) ?_)))
  refine Ev.bnd (congrArg some (st2_set_j H)) (Ev.bnd (congrArg some (st2_set_i H)) (Ev.bnd (congrArg some (st2_set_i H)) (Ev.bnd (congrArg some (st2_set_j H)) ?_)))
  change Ev (fun k => if w = 1 then spec_AddResult.j1 k l ((st2 l i j _ _).set i.toNat (⟨(rdT (st2 l i j _ _) i).f0, (rdT (st2 l i j _ _) i).f1, wrap64 ((rdT (st2 l i j _ _) i).f2 + 1), (rdT (st2 l i j _ _) i).f3, (rdT (st2 l i j _ _) i).f4, (rdT (st2 l i j _ _) i).f5⟩ : Tm)) else spec_AddResult.j1 k l ((st2 l i j _ _).set j.toNat (⟨(rdT (st2 l i j _ _) j).f0, (rdT (st2 l i j _ _) j).f1, wrap64 ((rdT (st2 l i j _ _) j).f2 + 1), (rdT (st2 l i j _ _) j).f3, (rdT (st2 l i j _ _) j).f4, (rdT (st2 l i j _ _) j).f5⟩ : Tm))) _
  rw [st2_set_i H, st2_set_j H]
  refine Ev.ite (fun hw => ?_) (fun hw => ?_)
  · have e : addX (rdT l i) b w p = ⟨(rdT l i).f0, (rdT l i).f1, wrap64 ((rdT l i).f2 + 1), wrap64 ((rdT l i).f3 + p), wrap64 ((rdT l i).f4 + 1), (rdT l i).f5 ++ [b]⟩ := by simp [addX, hw]
    have e2 : addY (rdT l j) a w q = ⟨(rdT l j).f0, (rdT l j).f1, (rdT l j).f2, wrap64 ((rdT l j).f3 + q), (rdT l j).f4, (rdT l j).f5 ++ [a]⟩ := by simp [addY, hw]
    rw [e, e2] at fin2
    simp only [rdT] at fin2
    simpa only [← show ∀ xs x, rdT xs x = rd_T78 xs x from fun _ _ => rfl, st2_rd_i H, st2_rd_j H] using fin2
  · have e : addX (rdT l i) b w p = ⟨(rdT l i).f0, (rdT l i).f1, (rdT l i).f2, wrap64 ((rdT l i).f3 + p), wrap64 ((rdT l i).f4 + 1), (rdT l i).f5 ++ [b]⟩ := by simp [addX, hw]
    have e2 : addY (rdT l j) a w q = ⟨(rdT l j).f0, (rdT l j).f1, wrap64 ((rdT l j).f2 + 1), wrap64 ((rdT l j).f3 + q), (rdT l j).f4, (rdT l j).f5 ++ [a]⟩ := by simp [addY, hw]
    rw [e, e2] at fin2
    simpa only [st2_rd_i H, st2_rd_j H] using fin2
theorem sAdd_ev (l : List Tm) (a b w p q : Int) (hs : Small l) : Ev (fun k => spec_AddResult.f k l a b w p q) (addT l a b w p q) := by
  unfold spec_AddResult.f
  have hj : ∀ x y, ¬ addC l a b w p q → Ev (fun k => spec_AddResult.j0 k l a b w p q l x y true) (addT l a b w p q) := fun x y h => Ev.step (fun k => spec_AddResult.j0.eq_2 ..) (Ev.pos rfl (Ev.some_ (by unfold addT; rw [if_neg h])))
  refine Ev.bind (sCopy_ev l hs) (Ev.bind (sFindTeam_ev l a hs.1) (Ev.bind (sFindTeam_ev l b hs.1) (Ev.bind (sAreTeams_ev l hs) ?_)))
  refine Ev.ite (fun h1 => ?_) (fun h1 => hj _ _ (fun h => h1 h.1))
  refine Ev.ite (fun h2 => hj _ _ (fun h => by have := h.2.1; omega)) (fun h2 => ?_)
  refine Ev.ite (fun h3 => hj _ _ (fun h => by have := h.2.2.1; omega)) (fun h3 => ?_)
  refine Ev.ite (fun h4 => hj _ _ (fun h => h.2.2.2.1 h4)) (fun h4 => ?_)
  refine Ev.bnd (l1In_eq _ _ _) (Ev.ite (fun h5 => ?_) (fun h5 => hj _ _ (fun h => h5 h.2.2.2.2.1)))
  refine Ev.bnd (l1In_eq _ _ _) (Ev.ite (fun h6 => ?_) (fun h6 => hj _ _ (fun h => h6 h.2.2.2.2.2.1)))
  refine Ev.bnd (l1In_eq _ _ _) ?_
  cases h7 : inR q 0 1000 with
  | false => exact hj _ _ (fun h => by have h8 := h.2.2.2.2.2.2; rw [h7] at h8; cases h8)
  | true => exact sAdd_j0 l a b w p q hs ⟨h1, by omega, by omega, h4, h5, h6, h7⟩
end Go.Proofs.Ytdlebbmmanjffaa.L
end
section
namespace Go.Proofs.Ytdlebbmmanjffaa.A
open Go.RowKit Go.Proofs.YtdlebbmmanjffaaW.PrintWords Go.Proofs.YtdlebbmmanjffaaW.PrintLast Go.Proofs.YtdlebbmmanjffaaW.PrintMore
attribute [local go_sem] max2_int min2_int max_two min_two max_three min_three max_four min_four
set_option linter.unusedVariables false
set_option linter.unusedSimpArgs false
def spec_l19Any.f (k : Nat) (s0_0 : List Int) (s0_1 : Int) (s0_2 : Int) : Option ((List (S78)) × Int × Int) := (spec_l19Draw.f k s0_0 s0_1 s0_2).bind fun bt489 => ((spec_l1Below.f s0_0 bt489.2.1 bt489.2.2 (bt489.1.length : Int)).bind fun bt494 => ((spec_l1Below.f s0_0 bt494.2.1 bt494.2.2 14).bind fun bt497 => (if bt497.1 = 0 then ((spec_l1Int.f s0_0 bt497.2.1 bt497.2.2 (([0, 2, 99, 100] : List Int))).bind fun bt503 => (if 0 ≤ bt494.1 then (if bt494.1 < (bt489.1.length : Int) then (some ((bt489.1.set (bt494.1 : Int).toNat (⟨bt503.1, (rd_T78 bt489.1 bt494.1).f1, (rd_T78 bt489.1 bt494.1).f2, (rd_T78 bt489.1 bt494.1).f3, (rd_T78 bt489.1 bt494.1).f4, (rd_T78 bt489.1 bt494.1).f5⟩ : S78)), bt503.2.1, bt503.2.2)) else (none)) else (none))) else (if bt497.1 = 1 then ((spec_l1Int.f s0_0 bt497.2.1 bt497.2.2 (([(-1), 9] : List Int))).bind fun bt510 => (if 0 ≤ bt494.1 then (if bt494.1 < (bt489.1.length : Int) then (some ((bt489.1.set (bt494.1 : Int).toNat (⟨(rd_T78 bt489.1 bt494.1).f0, (rd_T78 bt489.1 bt494.1).f1, bt510.1, (rd_T78 bt489.1 bt494.1).f3, (rd_T78 bt489.1 bt494.1).f4, (rd_T78 bt489.1 bt494.1).f5⟩ : S78)), bt510.2.1, bt510.2.2)) else (none)) else (none))) else (if bt497.1 = 2 then ((spec_l1Int.f s0_0 bt497.2.1 bt497.2.2 (([(-1), 100000, 100001] : List Int))).bind fun bt517 => (if 0 ≤ bt494.1 then (if bt494.1 < (bt489.1.length : Int) then (some ((bt489.1.set (bt494.1 : Int).toNat (⟨(rd_T78 bt489.1 bt494.1).f0, (rd_T78 bt489.1 bt494.1).f1, (rd_T78 bt489.1 bt494.1).f2, bt517.1, (rd_T78 bt489.1 bt494.1).f4, (rd_T78 bt489.1 bt494.1).f5⟩ : S78)), bt517.2.1, bt517.2.2)) else (none)) else (none))) else (if bt497.1 = 3 then (if 0 ≤ bt494.1 then (if bt494.1 < (bt489.1.length : Int) then (if ((rd_T78 bt489.1 bt494.1).f5).length < 17592186044416 then (some ((bt489.1.set (bt494.1 : Int).toNat (⟨(rd_T78 bt489.1 bt494.1).f0, (rd_T78 bt489.1 bt494.1).f1, (rd_T78 bt489.1 bt494.1).f2, (rd_T78 bt489.1 bt494.1).f3, (rd_T78 bt489.1 bt494.1).f4, (((rd_T78 bt489.1 bt494.1).f5) ++ [2])⟩ : S78)), bt497.2.1, bt497.2.2)) else (none)) else (none)) else (none)) else (if bt497.1 = 4 then ((spec_l1Int.f s0_0 bt497.2.1 bt497.2.2 (([0, 99, 100] : List Int))).bind fun bt529 => (if 0 ≤ bt494.1 then (if bt494.1 < (bt489.1.length : Int) then (some ((bt489.1.set (bt494.1 : Int).toNat (⟨(rd_T78 bt489.1 bt494.1).f0, bt529.1, (rd_T78 bt489.1 bt494.1).f2, (rd_T78 bt489.1 bt494.1).f3, (rd_T78 bt489.1 bt494.1).f4, (rd_T78 bt489.1 bt494.1).f5⟩ : S78)), bt529.2.1, bt529.2.2)) else (none)) else (none))) else (some (bt489.1, bt497.2.1, bt497.2.2)))))))))
end Go.Proofs.Ytdlebbmmanjffaa.A
end
section
set_option linter.unusedVariables false
set_option linter.unusedSimpArgs false
namespace Go.Proofs.Ytdlebbmmanjffaa.L
open Go Go.RowKit Go.Proofs.Ytdlebbmmanjffaa.A Go.Proofs.YtdlebbmmanjffaaW.PrintWords
theorem TDraw_l1 (b : List Int) : ∀ (d m : Nat) (l : List Tm) (i h : Int), d ≤ 6 → m + d ≤ 6 → 0 < l.length → Tiny 7 m l → At b i → ∃ l' i' h', 0 < l'.length ∧ Tiny 7 6 l' ∧ At b i' ∧ Ev (fun k => spec_l19Draw.l1 k l (d : Int) b i h) (l', i', h') := by
  intro d
  induction d with
  | zero =>
    intro m l i h hd hm hp ht ha
    exact ⟨l, i, h, hp, ⟨ht.1, fun x hx => by have := ht.2 x hx; omega⟩, ha, Ev.step (fun k => spec_l19Draw.l1.eq_2 ..) (Ev.neg (by omega) (Ev.now _))⟩
  | succ d ih =>
    intro m l i h hd hm hp ht ha
    obtain ⟨r1, i1, h1, e1, _, _, _, a1⟩ := Below_eq b i h 6 ha
    obtain ⟨r2, i2, h2, e2, _, _, _, a2⟩ := Below_eq b i1 h1 6 a1
    obtain ⟨r3, i3, h3, e3, _, _, _, a3⟩ := Below_eq b i2 h2 2 a2
    obtain ⟨r4, i4, h4, e4, _, _, _, a4⟩ := Below_eq b i3 h3 20 a3
    obtain ⟨r5, i5, h5, e5, _, _, _, a5⟩ := Below_eq b i4 h4 20 a4
    have hs : Small l := ht.small (by omega) (by omega)
    have hA := sAdd_ev l (wrap64 (2 * (wrap64 (1 + r1)))) (wrap64 (2 * (wrap64 (1 + r2)))) (wrap64 (1 + r3)) (wrap64 (60 + r4)) (wrap64 (60 + r5)) hs
    have hT := addT_tiny ht (wrap64 (2 * (wrap64 (1 + r1)))) (wrap64 (2 * (wrap64 (1 + r2)))) (wrap64 (1 + r3)) (wrap64 (60 + r4)) (wrap64 (60 + r5))
    have hL := addT_len l (wrap64 (2 * (wrap64 (1 + r1)))) (wrap64 (2 * (wrap64 (1 + r2)))) (wrap64 (1 + r3)) (wrap64 (60 + r4)) (wrap64 (60 + r5))
    obtain ⟨l', i', h', p', t', a', e'⟩ := ih (m + 1) _ i5 h5 (by omega) (by omega) (by rw [hL]; exact hp) hT a5
    refine ⟨l', i', h', p', t', a', Ev.step (fun k => spec_l19Draw.l1.eq_2 ..) (Ev.pos (by omega) (Ev.bnd e1 (Ev.bnd e2 (Ev.bnd e3 (Ev.bnd e4 (Ev.bnd e5 (Ev.bind hA ?_)))))))⟩
    rw [w64p (show d < 4611686018427387904 by omega)]
    exact e'
theorem TDraw_l0 (b : List Int) : ∀ (d x4 : Nat) (l : List Tm) (i h : Int), x4 + d = 7 → 1 ≤ x4 → l.length + 1 = x4 → Tiny 7 0 l → At b i → ∃ l' i' h', 0 < l'.length ∧ Tiny 7 6 l' ∧ At b i' ∧ Ev (fun k => spec_l19Draw.l0 k l (x4 : Int) b i h) (l', i', h') := by
  intro d
  induction d with
  | zero =>
    intro x4 l i h hd h1x hl ht ha
    obtain ⟨r, i1, h1, e1, r0, r1, _, a1⟩ := Below_eq b i h 5 ha
    have hr := r1 (by omega)
    obtain ⟨r2, i2, h2, e2, r20, r21, _, a2⟩ := Below_eq b i1 h1 7 a1
    have hr2 := r21 (by omega)
    obtain ⟨n, hn⟩ : ∃ n : Nat, r2 = (n : Int) := ⟨r2.toNat, by omega⟩
    subst hn
    obtain ⟨l', i', h', p', t', a', e'⟩ := TDraw_l1 b n 0 l i2 h2 (by omega) (by omega) (by omega) ht a2
    exact ⟨l', i', h', p', t', a', Ev.step (fun k => spec_l19Draw.l0.eq_2 ..) (Ev.bnd e1 (Ev.neg (by rw [w64 (by omega) (by omega)]; omega) (Ev.bnd e2 e')))⟩
  | succ d ih =>
    intro x4 l i h hd h1x hl ht ha
    obtain ⟨r, i1, h1, e1, r0, r1, _, a1⟩ := Below_eq b i h 5 ha
    have hr := r1 (by omega)
    by_cases hx : (x4 : Int) ≤ wrap64 (2 + r)
    · obtain ⟨r2, i2, h2, e2, _, _, _, a2⟩ := Below_eq b i1 h1 3 a1
      obtain ⟨l', i', h', p', t', a', e'⟩ := ih (x4 + 1) (l ++ [(⟨wrap64 (2 * (x4 : Int)), wrap64 (1 + r2), 0, 0, 0, ([] : List Int)⟩ : S78)]) i2 h2 (by omega) (by omega) (by simp; omega) ⟨by simp; omega, fun x hx => by
        rcases List.mem_append.1 hx with hx | hx
        · exact ht.2 x hx
        · simp only [List.mem_cons, List.not_mem_nil, or_false] at hx
          subst hx
          simp⟩ a2
      refine ⟨l', i', h', p', t', a', Ev.step (fun k => spec_l19Draw.l0.eq_2 ..) (Ev.bnd e1 (Ev.pos hx (Ev.bnd e2 (Ev.pos (by omega) ?_))))⟩
      rw [w64s (show x4 < 4611686018427387904 by omega)]
      exact e'
    · have hx2 : 2 ≤ x4 := by rw [w64 (by omega) (by omega)] at hx; omega
      obtain ⟨r2, i2, h2, e2, r20, r21, _, a2⟩ := Below_eq b i1 h1 7 a1
      have hr2 := r21 (by omega)
      obtain ⟨n, hn⟩ : ∃ n : Nat, r2 = (n : Int) := ⟨r2.toNat, by omega⟩
      subst hn
      obtain ⟨l', i', h', p', t', a', e'⟩ := TDraw_l1 b n 0 l i2 h2 (by omega) (by omega) (by omega) ht a2
      exact ⟨l', i', h', p', t', a', Ev.step (fun k => spec_l19Draw.l0.eq_2 ..) (Ev.bnd e1 (Ev.neg hx (Ev.bnd e2 e')))⟩
theorem TDraw_ev (b : List Int) (i h : Int) (ha : At b i) : ∃ l' i' h', 0 < l'.length ∧ Tiny 7 6 l' ∧ At b i' ∧ Ev (fun k => spec_l19Draw.f k b i h) (l', i', h') := by
  unfold spec_l19Draw.f
  exact TDraw_l0 b 6 1 [] i h (by omega) (by omega) (by simp) ⟨by simp, fun x hx => by simp at hx⟩ ha
end Go.Proofs.Ytdlebbmmanjffaa.L
end
section
set_option linter.unusedVariables false
set_option linter.unusedSimpArgs false
namespace Go.Proofs.Ytdlebbmmanjffaa.L
open Go

end Go.Proofs.Ytdlebbmmanjffaa.L
end
section
set_option linter.unusedVariables false
set_option linter.unusedSimpArgs false
namespace Go.Proofs.Ytdlebbmmanjffaa.L
open Go Go.RowKit Go.Proofs.Ytdlebbmmanjffaa.A Go.Proofs.YtdlebbmmanjffaaW.PrintWords
def sides : List Pr → List Int
  | [] => []
  | p :: r => p.f0 :: p.f1 :: sides r
theorem sides_length : ∀ r : List Pr, (sides r).length = 2 * r.length
  | [] => rfl
  | p :: r => by simp only [sides, List.length_cons, sides_length r]; omega
def fresh (l : List Tm) (r : List Pr) : List Int → Bool
  | seen => match r with
    | [] => true
    | p :: r => mayT l p.f0 p.f1 && !decide (p.f0 ∈ seen) && !decide (p.f1 ∈ seen) && fresh l r (seen ++ [p.f0, p.f1])
theorem fresh_iff (l : List Tm) : ∀ (r : List Pr) (seen : List Int), fresh l r seen = true ↔ (∀ p ∈ r, mayT l p.f0 p.f1 = true) ∧ (sides r).Nodup ∧ ∀ x ∈ sides r, x ∉ seen
  | [], seen => by simp [fresh, sides]
  | p :: r, seen => by
    rw [fresh]
    simp only [Bool.and_eq_true, Bool.not_eq_true', decide_eq_false_iff_not, fresh_iff l r, sides, List.nodup_cons, List.mem_cons, List.mem_append, List.not_mem_nil, or_false, forall_eq_or_imp, not_or]
    constructor
    · rintro ⟨⟨⟨h1, h2⟩, h3⟩, h4, h5, h6⟩
      have hm := (mayT_iff.1 h1).2.2.2.1
      refine ⟨⟨h1, h4⟩, ⟨⟨fun e => hm (by rw [e]), fun hx => (h6 _ hx).2.1 rfl⟩, fun hx => (h6 _ hx).2.2 rfl, h5⟩, h2, h3, fun x hx => (h6 x hx).1⟩
    · rintro ⟨⟨h1, h4⟩, ⟨⟨h7, h8⟩, h9, h5⟩, h2, h3, h6⟩
      exact ⟨⟨⟨h1, h2⟩, h3⟩, h4, h5, fun x hx => ⟨h6 x hx, fun e => h8 (e ▸ hx), fun e => h9 (e ▸ hx)⟩⟩
def isRoundB (l : List Tm) (r : List Pr) : Bool := fresh l r [] && areT l && decide ((sides r).length = l.length)
theorem bef_neg {x y u : K3} (h1 : befK x y = false) (h2 : befK y u = false) : befK x u = false := by
  rw [Bool.eq_false_iff, Ne, befK_iff] at *
  omega
theorem bef_asym {x y : K3} (h : befK x y = true) : befK y x = false := by
  rw [befK_iff] at h
  rw [Bool.eq_false_iff, Ne, befK_iff]
  omega
theorem insKP_le (x : K3) (ys : List K3) : ∀ k, insKP x ys k ≤ k
  | 0 => Nat.le_refl _
  | k + 1 => by
    rw [insKP]
    split
    · have := insKP_le x ys k; omega
    · exact Nat.le_refl _
theorem insKP_above (x : K3) (ys : List K3) : ∀ k j : Nat, insKP x ys k ≤ j → j < k → befK x (ys.getD j default) = true
  | 0, j, _, h => by omega
  | k + 1, j, h1, h2 => by
    rw [insKP] at h1
    by_cases hb : befK x (ys.getD k default) = true
    · rw [if_pos hb] at h1
      by_cases e : j = k
      · subst e
        exact hb
      · exact insKP_above x ys k j h1 (by omega)
    · rw [if_neg hb] at h1
      omega
theorem insKP_below (x : K3) (ys : List K3) : ∀ k : Nat, 0 < insKP x ys k → befK x (ys.getD (insKP x ys k - 1) default) = false
  | 0, h => by simp [insKP] at h
  | k + 1, h => by
    rw [insKP] at h ⊢
    by_cases hb : befK x (ys.getD k default) = true
    · rw [if_pos hb] at h ⊢
      exact insKP_below x ys k h
    · rw [if_neg hb] at h ⊢
      rw [Nat.add_sub_cancel]
      exact Bool.eq_false_iff.mpr hb
theorem getD_at {ys : List K3} {j : Nat} (h : j < ys.length) : ys.getD j default = ys[j] := by
  rw [List.getD_eq_getElem?_getD, List.getElem?_eq_getElem h]
  rfl
abbrev SrtK (ys : List K3) : Prop := ys.Pairwise (fun u v => befK v u = false)
theorem insKK_sorted {ys : List K3} {x : K3} (h : SrtK ys) : SrtK (insKK ys x) := by
  have hp := insKP_le x ys ys.length
  have habove := fun j => insKP_above x ys ys.length j
  have hbelow := insKP_below x ys ys.length
  unfold insKK
  generalize insKP x ys ys.length = p at hp habove hbelow ⊢
  have hg := List.pairwise_iff_getElem.1 h
  unfold SrtK
  rw [List.append_assoc, List.pairwise_append]
  refine ⟨h.sublist (List.take_sublist _ _), ?_, ?_⟩
  · rw [List.singleton_append, List.pairwise_cons]
    refine ⟨fun v hv => ?_, h.sublist (List.drop_sublist _ _)⟩
    obtain ⟨j, hj, rfl⟩ := List.mem_iff_getElem.1 hv
    have hj2 : p + j < ys.length := by rw [List.length_drop] at hj; omega
    rw [List.getElem_drop]
    have := habove (p + j) (by omega) hj2
    rw [getD_at hj2] at this
    exact bef_asym this
  · intro u hu v hv
    obtain ⟨j, hj, rfl⟩ := List.mem_iff_getElem.1 hu
    have hj1 : j < p := by rw [List.length_take] at hj; omega
    have hj2 : j < ys.length := by omega
    rw [List.getElem_take]
    rcases List.mem_append.1 hv with hv | hv
    · rw [List.mem_singleton] at hv
      subst hv
      have hb := hbelow (by omega)
      have hp1 : p - 1 < ys.length := by omega
      rw [getD_at hp1] at hb
      by_cases e : j = p - 1
      · subst e
        exact hb
      · exact bef_neg hb (hg j (p - 1) hj2 hp1 (by omega))
    · obtain ⟨i, hi, rfl⟩ := List.mem_iff_getElem.1 hv
      rw [List.length_drop] at hi
      rw [List.getElem_drop]
      exact hg j (p + i) hj2 (by omega) (by omega)
theorem insKK_perm (ys : List K3) (x : K3) : (insKK ys x).Perm (x :: ys) := by
  unfold insKK
  rw [List.append_assoc, List.singleton_append]
  refine List.perm_middle.trans ?_
  rw [List.take_append_drop]
theorem fold_sorted : ∀ (ks ys : List K3), SrtK ys → SrtK (ks.foldl insKK ys)
  | [], ys, h => h
  | k :: ks, ys, h => fold_sorted ks (insKK ys k) (insKK_sorted h)
theorem fold_perm : ∀ (ks ys : List K3), (ks.foldl insKK ys).Perm (ks ++ ys)
  | [], ys => List.Perm.refl _
  | k :: ks, ys => by
    rw [List.foldl_cons]
    refine (fold_perm ks (insKK ys k)).trans ?_
    refine ((insKK_perm ys k).append_left ks).trans ?_
    exact List.perm_middle
theorem areT_ten {l : List Tm} (h : areT l = true) : l.length ≤ 10 := by
  by_cases h10 : l.length ≤ 10
  · exact h10
  · rw [areT_big h10] at h
    cases h
def standT (l : List Tm) : List Int := if areT l = true then (ordT l).map (fun t => t.f0) else []
theorem sStanding_ev (l : List Tm) (hs : Small l) : Ev (fun k => spec_Standing.f k l) (standT l) := by
  unfold spec_Standing.f standT
  refine Ev.bind (sAreTeams_ev l hs) ?_
  by_cases h : areT l = true
  · refine Ev.cast (Ev.pos h (Ev.pos (by have := areT_ten h; omega) (Ev.now _))) ?_
    rw [if_pos h]
    have hp : ((l.map keyS).foldl insKK []).Perm ((ordT l).map keyS) := by
      refine (fold_perm (l.map keyS) []).trans ?_
      rw [List.append_nil]
      exact ((List.mergeSort_perm _ _).symm).map _
    rw [sorted_one hp (fold_sorted _ [] List.Pairwise.nil) (ordT_sortedK l), List.map_map]
    rfl
  · exact Ev.cast (Ev.neg h (Ev.now _)) (if_neg h).symm
end Go.Proofs.Ytdlebbmmanjffaa.L
end
section
namespace Go.Proofs.Ytdlebbmmanjffaa.A
open Go.RowKit Go.Proofs.YtdlebbmmanjffaaW.PrintWords Go.Proofs.YtdlebbmmanjffaaW.PrintLast Go.Proofs.YtdlebbmmanjffaaW.PrintMore
attribute [local go_sem] max2_int min2_int max_two min_two max_three min_three max_four min_four
set_option linter.unusedVariables false
set_option linter.unusedSimpArgs false
def impl_SideFor.j0 : Nat → List (S78) → Int → Int → Int → Int → Bool → Option (Int × Int)
  | 0, _, _, _, _, _, _ => none
  | k + 1, x0, x1, x2, x7, x8, x33 => if x33 = true then (some (0, 0)) else (if 0 ≤ x7 then (if x7 < (x0.length : Int) then (if 0 ≤ x8 then (if x8 < (x0.length : Int) then ((impl_Standing.f k x0).bind fun t553 => (if ((rd_T78 x0 x7).f4) < ((rd_T78 x0 x8).f4) then (some (x1, x2)) else (if ((rd_T78 x0 x7).f4) = ((rd_T78 x0 x8).f4) then ((slices_Index_int_int.f k t553 x1).bind fun t556 => ((slices_Index_int_int.f k t553 x2).bind fun t557 => (if t556 < t557 then (some (x1, x2)) else (some (x2, x1))))) else (some (x2, x1))))) else (none)) else (none)) else (none)) else (none))
def impl_SideFor.f (k : Nat) (l0 : List (S78)) (a1 : Int) (a2 : Int) : Option (Int × Int) := (impl_FindTeam.f l0 a1).bind fun t548 => ((impl_FindTeam.f l0 a2).bind fun t549 => ((impl_AreTeams.f k l0).bind fun t550 => (if t550 = true then (if t548 < 0 then (impl_SideFor.j0 k l0 a1 a2 t548 t549 true) else (if t549 < 0 then (impl_SideFor.j0 k l0 a1 a2 t548 t549 true) else (impl_SideFor.j0 k l0 a1 a2 t548 t549 (t548 == t549)))) else (impl_SideFor.j0 k l0 a1 a2 t548 t549 true))))
end Go.Proofs.Ytdlebbmmanjffaa.A
end
section
set_option linter.unusedVariables false
set_option linter.unusedSimpArgs false
namespace Go.Proofs.Ytdlebbmmanjffaa.L
open Go Go.RowKit Go.Proofs.Ytdlebbmmanjffaa.A Go.Proofs.YtdlebbmmanjffaaW.PrintWords
def sideT (l : List Tm) (a b : Int) : Int × Int :=
  if areT l = true ∧ 0 ≤ findT l a ∧ 0 ≤ findT l b ∧ findT l a ≠ findT l b then
    (if (rd_T78 l (findT l a)).f4 < (rd_T78 l (findT l b)).f4 ∨ (rd_T78 l (findT l a)).f4 = (rd_T78 l (findT l b)).f4 ∧ befB (rd_T78 l (findT l a)) (rd_T78 l (findT l b)) = true then (a, b) else (b, a))
  else (0, 0)
theorem ids_ne {l : List Tm} {a b : Int} (h2 : 0 ≤ findT l a) (h3 : 0 ≤ findT l b) (h4 : findT l a ≠ findT l b) : a ≠ b := fun e => h4 (by rw [e])
theorem sSide_j0 (l : List Tm) (a b : Int) (h1 : areT l = true) (h2 : 0 ≤ findT l a) (h3 : 0 ≤ findT l b) (h4 : findT l a ≠ findT l b) : Ev (fun k => spec_SideFor.j0 k l a b (findT l a) (findT l b) false) (sideT l a b) := by
  have ha := findT_range l a
  have hb := findT_range l b
  have hne := ids_ne h2 h3 h4
  have e1 : (rd_T78 l (findT l a)).f0 = a := findT_id h2
  have e2 : (rd_T78 l (findT l b)).f0 = b := findT_id h3
  have hsd : sideT l a b = (if (rd_T78 l (findT l a)).f4 < (rd_T78 l (findT l b)).f4 ∨ (rd_T78 l (findT l a)).f4 = (rd_T78 l (findT l b)).f4 ∧ befB (rd_T78 l (findT l a)) (rd_T78 l (findT l b)) = true then (a, b) else (b, a)) := if_pos ⟨h1, h2, h3, h4⟩
  rw [hsd]
  refine Ev.step (fun k => spec_SideFor.j0.eq_2 ..) (Ev.neg (by simp) (Ev.pos h3 (Ev.pos hb.2 (Ev.pos h2 (Ev.pos ha.2 ?_)))))
  refine Ev.ite (fun h5 => Ev.some_ ?_) (fun h5 => ?_)
  · rw [if_neg (by omega)]
  · refine Ev.ite (fun h6 => ?_) (fun h6 => Ev.some_ ?_)
    · refine Ev.bnd (sBefore_eq _ _) ?_
      refine Ev.ite (fun h7 => Ev.some_ ?_) (fun h7 => Ev.some_ ?_)
      · have := bef_asymm h7
        rw [if_neg (by rintro (h | ⟨_, h⟩); · omega
                       · rw [this] at h; cases h)]
      · have := bef_total (by rw [e1, e2]; exact hne.symm) (Bool.not_eq_true _ ▸ h7)
        rw [if_pos (.inr ⟨h6.symm, this⟩)]
    · rw [if_pos (.inl (by omega))]
theorem sSideFor_ev (l : List Tm) (a b : Int) (hs : Small l) : Ev (fun k => spec_SideFor.f k l a b) (sideT l a b) := by
  unfold spec_SideFor.f
  have hj : ∀ x y, Ev (fun k => spec_SideFor.j0 k l a b x y true) (0, 0) := fun x y => Ev.step (fun k => spec_SideFor.j0.eq_2 ..) (Ev.pos rfl (Ev.now _))
  refine Ev.bind (sFindTeam_ev l a hs.1) (Ev.bind (sFindTeam_ev l b hs.1) (Ev.bind (sAreTeams_ev l hs) ?_))
  refine Ev.ite (fun h1 => ?_) (fun h1 => Ev.cast (hj _ _) (if_neg (fun h => h1 h.1)).symm)
  refine Ev.ite (fun h2 => Ev.cast (hj _ _) (if_neg (fun h => by omega)).symm) (fun h2 => ?_)
  refine Ev.ite (fun h3 => Ev.cast (hj _ _) (if_neg (fun h => by omega)).symm) (fun h3 => ?_)
  by_cases h4 : findT l a = findT l b
  · simp only [h4, beq_self_eq_true]
    exact Ev.cast (hj _ _) (if_neg (fun h => h.2.2.2 h4)).symm
  · rw [show (findT l a == findT l b) = false from beq_false_of_ne h4]
    exact sSide_j0 l a b h1 (by omega) (by omega) h4
def sideP (l : List Tm) (a b : Int) : Pr := ⟨(sideT l a b).1, (sideT l a b).2⟩
def pairL (l : List Tm) (g : List Int → List Pr × Bool) (x : Int) : List Int → List Int → List Pr × Bool
  | _, [] => ([], false)
  | pre, y :: ys => if mayT l x y = true then (if (g (pre ++ ys)).2 = true then (sideP l x y :: (g (pre ++ ys)).1, true) else pairL l g x (pre ++ [y]) ys) else pairL l g x (pre ++ [y]) ys
def pairR (l : List Tm) : Nat → List Int → List Pr × Bool
  | 0, _ => ([], true)
  | _ + 1, [] => ([], true)
  | n + 1, x :: r => pairL l (pairR l n) x [] r
def roundT (l : List Tm) : List Pr × Bool := if areT l = true ∧ l.length % 2 = 0 then pairR l l.length (standT l) else ([], false)
theorem metT_symm {l : List Tm} (h : areT l = true) {a b : Int} (ha : 0 ≤ findT l a) (hb : 0 ≤ findT l b) (hm : metT l a b = true) : metT l b a = true := by
  have h1 := of_decide_eq_true hm
  have hr := findT_range l a
  obtain ⟨m, hmn⟩ : ∃ m : Nat, findT l a = (m : Int) := ⟨(findT l a).toNat, by omega⟩
  have hrow := areT_row h m (by omega)
  simp only [okT, Bool.and_eq_true, List.all_eq_true] at hrow
  have h2 := h1.2
  rw [hmn] at h2
  have h3 := of_decide_eq_true (hrow.2 b h2)
  have hid : (rdT l (m : Int)).f0 = a := by rw [← hmn]; exact findT_id ha
  rw [hid] at h3
  have h4 := List.count_pos_iff.2 h2
  refine decide_eq_true ⟨hb, List.count_pos_iff.1 ?_⟩
  have h5 := h3.2.2
  show 0 < List.count a (rdT l (findT l b)).f5
  have h6 : 0 < List.count b (rdT l (m : Int)).f5 := h4
  omega
theorem mayT_symm (l : List Tm) (a b : Int) : mayT l a b = mayT l b a := by
  rw [Bool.eq_iff_iff, mayT_iff, mayT_iff]
  constructor
  · rintro ⟨h1, h2, h3, h4, h5, h6⟩
    refine ⟨h1, h3, h2, h4.symm, h5.symm, ?_⟩
    rw [Bool.eq_false_iff] at h6 ⊢
    exact fun h => h6 (metT_symm h1 h3 h2 h)
  · rintro ⟨h1, h2, h3, h4, h5, h6⟩
    refine ⟨h1, h3, h2, h4.symm, h5.symm, ?_⟩
    rw [Bool.eq_false_iff] at h6 ⊢
    exact fun h => h6 (metT_symm h1 h3 h2 h)
theorem sideP_of {l : List Tm} {a b : Int} (h : mayT l a b = true) : (sideP l a b = ⟨a, b⟩ ∨ sideP l a b = ⟨b, a⟩) ∧ mayT l (sideP l a b).f0 (sideP l a b).f1 = true ∧ (rdT l (findT l (sideP l a b).f0)).f4 ≤ (rdT l (findT l (sideP l a b).f1)).f4 := by
  obtain ⟨h1, h2, h3, h4, h5, h6⟩ := mayT_iff.1 h
  have hs : sideT l a b = (if (rd_T78 l (findT l a)).f4 < (rd_T78 l (findT l b)).f4 ∨ (rd_T78 l (findT l a)).f4 = (rd_T78 l (findT l b)).f4 ∧ befB (rd_T78 l (findT l a)) (rd_T78 l (findT l b)) = true then (a, b) else (b, a)) := if_pos ⟨h1, h2, h3, h4⟩
  by_cases hc : (rd_T78 l (findT l a)).f4 < (rd_T78 l (findT l b)).f4 ∨ (rd_T78 l (findT l a)).f4 = (rd_T78 l (findT l b)).f4 ∧ befB (rd_T78 l (findT l a)) (rd_T78 l (findT l b)) = true
  · rw [if_pos hc] at hs
    have e : sideP l a b = ⟨a, b⟩ := by unfold sideP; rw [hs]
    rw [e]
    refine ⟨.inl rfl, h, ?_⟩
    show (rd_T78 l (findT l a)).f4 ≤ (rd_T78 l (findT l b)).f4
    omega
  · rw [if_neg hc] at hs
    have e : sideP l a b = ⟨b, a⟩ := by unfold sideP; rw [hs]
    rw [e]
    refine ⟨.inr rfl, by rw [mayT_symm]; exact h, ?_⟩
    show (rd_T78 l (findT l b)).f4 ≤ (rd_T78 l (findT l a)).f4
    omega
def GoodR (l : List Tm) (left : List Int) (z : List Pr × Bool) : Prop :=
  (z.2 = true → (sides z.1).Perm left ∧ ∀ p ∈ z.1, mayT l p.f0 p.f1 = true ∧ (rdT l (findT l p.f0)).f4 ≤ (rdT l (findT l p.f1)).f4) ∧ (z.2 = false → z.1 = [])
theorem pairL_good (l : List Tm) (g : List Int → List Pr × Bool) (x : Int) : ∀ (ys pre : List Int), (∀ z : List Int, z.length + 1 ≤ pre.length + ys.length → GoodR l z (g z)) → GoodR l (x :: (pre ++ ys)) (pairL l g x pre ys)
  | [], pre, hg => ⟨fun h => by simp [pairL] at h, fun _ => rfl⟩
  | y :: ys, pre, hg => by
    have hrest : GoodR l (x :: (pre ++ y :: ys)) (pairL l g x (pre ++ [y]) ys) := by
      have := pairL_good l g x ys (pre ++ [y]) (fun z hz => hg z (by simp at hz ⊢; omega))
      simpa using this
    rw [pairL]
    split
    · rename_i hm
      split
      · rename_i hz
        obtain ⟨h1, h2⟩ := hg (pre ++ ys) (by simp; omega)
        obtain ⟨hp, hq⟩ := h1 hz
        obtain ⟨k1, k2, k3⟩ := sideP_of hm
        refine ⟨fun _ => ⟨?_, fun p hp => ?_⟩, fun h => by simp at h⟩
        · show (sides (sideP l x y :: (g (pre ++ ys)).1)).Perm _
          have hxy : (x :: y :: (pre ++ ys)).Perm (x :: (pre ++ y :: ys)) := List.Perm.cons _ List.perm_middle.symm
          rcases k1 with k1 | k1
          · rw [k1]
            exact (((hp.cons y).cons x)).trans hxy
          · rw [k1]
            exact ((((hp.cons x).cons y)).trans (List.Perm.swap _ _ _)).trans hxy
        · rcases List.mem_cons.1 hp with rfl | hp
          · exact ⟨k2, k3⟩
          · exact hq p hp
      · exact hrest
    · exact hrest
theorem pairR_good (l : List Tm) : ∀ (n : Nat) (left : List Int), left.length ≤ n → GoodR l left (pairR l n left)
  | 0, [], _ => ⟨fun _ => ⟨List.Perm.refl _, fun p hp => by simp [pairR] at hp⟩, fun h => by simp [pairR] at h⟩
  | 0, x :: r, h => by simp at h
  | n + 1, [], _ => ⟨fun _ => ⟨List.Perm.refl _, fun p hp => by simp [pairR] at hp⟩, fun h => by simp [pairR] at h⟩
  | n + 1, x :: r, h => by
    simp only [List.length_cons] at h
    exact pairL_good l (pairR l n) x r [] (fun z hz => pairR_good l n z (by simp at hz; omega))
theorem standT_perm {l : List Tm} (h : areT l = true) : (standT l).Perm (l.map (fun t => t.f0)) := by
  unfold standT
  rw [if_pos h]
  exact (ordT_perm l).map _
theorem standT_length {l : List Tm} (h : areT l = true) : (standT l).length = l.length := by
  rw [(standT_perm h).length_eq, List.length_map]
theorem roundT_good (l : List Tm) : ((roundT l).2 = true → isRoundB l (roundT l).1 = true ∧ ∀ p ∈ (roundT l).1, mayT l p.f0 p.f1 = true ∧ (rdT l (findT l p.f0)).f4 ≤ (rdT l (findT l p.f1)).f4) ∧ ((roundT l).2 = false → (roundT l).1 = []) := by
  unfold roundT
  by_cases h : areT l = true ∧ l.length % 2 = 0
  · rw [if_pos h]
    obtain ⟨h1, h2⟩ := pairR_good l l.length (standT l) (by rw [standT_length h.1]; exact Nat.le_refl _)
    refine ⟨fun h3 => ?_, h2⟩
    obtain ⟨hp, hq⟩ := h1 h3
    have hp2 := hp.trans (standT_perm h.1)
    refine ⟨?_, hq⟩
    unfold isRoundB
    simp only [Bool.and_eq_true, decide_eq_true_eq]
    refine ⟨⟨(fresh_iff l _ []).2 ⟨fun p hp => (hq p hp).1, hp2.nodup_iff.2 (areT_nodup h.1), fun x _ => List.not_mem_nil⟩, h.1⟩, ?_⟩
    rw [hp2.length_eq, List.length_map]
  · rw [if_neg h]
    exact ⟨fun h => by simp at h, fun _ => rfl⟩
theorem roundT_len (l : List Tm) : (roundT l).1.length ≤ 10 := by
  obtain ⟨h1, h2⟩ := roundT_good l
  cases h : (roundT l).2 with
  | false => rw [h2 h]; simp
  | true =>
    have h3 := (h1 h).1
    unfold isRoundB at h3
    simp only [Bool.and_eq_true, decide_eq_true_eq] at h3
    have h4 := areT_len h3.1.2
    have h5 := sides_length (roundT l).1
    omega
theorem rd_head (x : Int) (r : List Int) : rd (x :: r) 0 = x := by simp [rd]
theorem rd_tail (x : Int) (r : List Int) {m : Nat} (h : m < r.length) : rd (x :: r) ((m + 1 : Nat) : Int) = r[m] := by
  rw [rd_at (by first | (simp; done) | (simp; omega))]
  rfl
theorem sPair_l0 (l : List Tm) (hs : Small l) (x : Int) (r : List Int) (g : List Int → List Pr × Bool) (hr : r.length ≤ 1048576) (ih : ∀ z : List Int, z.length + 1 ≤ r.length → Ev (fun k => spec_l20Search.f k l z) (g z)) (hg : ∀ z : List Int, z.length + 1 ≤ r.length → (g z).1.length ≤ z.length) :
    ∀ (d m : Nat), m + d = r.length → Ev (fun k => spec_l20Search.l0 k l (x :: r) ((m + 1 : Nat) : Int)) (pairL l g x (r.take m) (r.drop m)) := by
  intro d
  induction d with
  | zero =>
    intro m hd
    refine Ev.step (fun k => spec_l20Search.l0.eq_2 ..) (Ev.neg (by first | (simp; done) | (simp; omega)) (Ev.some_ ?_))
    rw [List.drop_eq_nil_of_le (by omega)]
    rfl
  | succ d ihd =>
    intro m hd
    have hm : m < r.length := by omega
    have hrest := ihd (m + 1) (by omega)
    rw [take_snoc r m hm] at hrest
    have hw : wrap64 (((m + 1 : Nat) : Int) + 1) = ((m + 1 + 1 : Nat) : Int) := w64s (by omega)
    have hz : (r.take m ++ r.drop (m + 1)).length + 1 ≤ r.length := by simp; omega
    rw [List.drop_eq_getElem_cons hm, pairL]
    refine Ev.step (fun k => spec_l20Search.l0.eq_2 ..) (Ev.pos (by first | (simp; done) | (simp; omega)) (Ev.pos (by first | (simp; done) | (simp; omega)) (Ev.pos (by omega) ?_)))
    simp only [rd_head, rd_tail x r hm, hw, Int.toNat_natCast, List.take_succ_cons, List.drop_succ_cons, List.drop_zero, Option.bind_some, List.nil_append]
    refine Ev.bind (sMayMeet_ev l x r[m] hs) ?_
    refine Ev.ite (fun h => ?_) (fun h => ?_)
    · rw [if_pos h]
      refine Ev.pos (by omega) (Ev.pos (by first | (simp; done) | (simp; omega)) (Ev.pos (by first | (simp; done) | (simp; omega)) (Ev.pos (by omega) (Ev.pos (by first | (simp; done) | (simp; omega)) (Ev.pos (by first | (simp; done) | (simp; omega)) ?_)))))
      have hlen := hg _ hz
      refine Ev.bind (ih _ hz) (Ev.ite (fun h2 => ?_) (fun h2 => ?_))
      · rw [if_pos h2]
        refine Ev.bind (sSideFor_ev l x r[m] hs) (Ev.pos (by simp only [List.length_cons, List.length_nil]; omega) (Ev.now _))
      · rw [if_neg h2]
        exact hrest
    · rw [if_neg h]
      exact hrest
theorem pairL_len (l : List Tm) (g : List Int → List Pr × Bool) (x : Int) : ∀ (ys pre : List Int), (∀ z : List Int, z.length + 1 ≤ pre.length + ys.length → (g z).1.length ≤ z.length) → (pairL l g x pre ys).1.length ≤ pre.length + ys.length
  | [], pre, _ => by simp [pairL]
  | y :: ys, pre, hg => by
    have h1 := pairL_len l g x ys (pre ++ [y]) (fun z hz => hg z (by simp at hz ⊢; omega))
    have h2 := hg (pre ++ ys) (by first | (simp; done) | (simp; omega))
    simp only [List.length_append, List.length_cons, List.length_nil] at h1 h2 ⊢
    rw [pairL]
    split
    · split
      · simp only [List.length_cons]; omega
      · omega
    · omega
theorem pairR_len (l : List Tm) : ∀ (n : Nat) (left : List Int), (pairR l n left).1.length ≤ left.length
  | 0, left => by simp [pairR]
  | n + 1, [] => by simp [pairR]
  | n + 1, x :: r => by
    have := pairL_len l (pairR l n) x r [] (fun z _ => pairR_len l n z)
    simp only [List.length_nil, List.length_cons] at this ⊢
    rw [pairR]
    omega
theorem sPair_ev (l : List Tm) (hs : Small l) : ∀ (n : Nat) (left : List Int), left.length ≤ n → left.length ≤ 1048576 → Ev (fun k => spec_l20Search.f k l left) (pairR l n left)
  | 0, [], _, _ => Ev.step (fun k => spec_l20Search.f.eq_2 ..) (Ev.pos (by simp) (Ev.now _))
  | 0, x :: r, h, _ => by simp at h
  | n + 1, [], _, _ => Ev.step (fun k => spec_l20Search.f.eq_2 ..) (Ev.pos (by simp) (Ev.now _))
  | n + 1, x :: r, h, h2 => by
    simp only [List.length_cons] at h h2
    refine Ev.step (fun k => spec_l20Search.f.eq_2 ..) (Ev.neg (by first | (simp; done) | (simp; omega)) ?_)
    have := sPair_l0 l hs x r (pairR l n) (by omega) (fun z hz => sPair_ev l hs n z (by omega) (by omega)) (fun z _ => pairR_len l n z) r.length 0 (by omega)
    simpa [pairR] using this
theorem even_eq {l : List Tm} (h : l.length % 2 = 0) : (((l.length : Int) % 2) == 1) = false := by
  rw [beq_eq_false_iff_ne]
  omega
theorem odd_eq {l : List Tm} (h : ¬ l.length % 2 = 0) : (((l.length : Int) % 2) == 1) = true := by
  rw [beq_iff_eq]
  omega
theorem sPairRound_ev (l : List Tm) (hs : Small l) : Ev (fun k => spec_PairRound.f k l) (roundT l) := by
  unfold spec_PairRound.f roundT
  have hj : Ev (fun k => spec_PairRound.j0 k l true) ([], false) := Ev.step (fun k => spec_PairRound.j0.eq_2 ..) (Ev.pos rfl (Ev.now _))
  refine Ev.bind (sAreTeams_ev l hs) (Ev.ite (fun h1 => ?_) (fun h1 => by rw [if_neg (fun h => h1 h.1)]; exact hj))
  by_cases h2 : l.length % 2 = 0
  · rw [if_pos ⟨h1, h2⟩, even_eq h2]
    have h3 := standT_length h1
    have h4 := areT_len h1
    refine Ev.step (fun k => spec_PairRound.j0.eq_2 ..) (Ev.neg (by simp) (Ev.bind (sStanding_ev l hs) (Ev.bind (sPair_ev l hs l.length _ (by omega) (by omega)) (Ev.now _))))
  · rw [if_neg (fun h => h2 h.2), odd_eq h2]
    exact hj
def TinyJ (l : List Jg) : Prop := l.length ≤ 7 ∧ ∀ x ∈ l, x.f2.length ≤ 2
theorem TinyJ.small {l : List Jg} (h : TinyJ l) : SmallJ l := ⟨by have := h.1; omega, fun x hx => by have := h.2 x hx; omega⟩
theorem JDraw_l0 (b : List Int) : ∀ (d x4 : Nat) (l : List Jg) (i h : Int), x4 + d = 6 → 1 ≤ x4 → l.length + 1 = x4 → TinyJ l → At b i → ∃ l' i' h', 0 < l'.length ∧ TinyJ l' ∧ At b i' ∧ Ev (fun k => spec_l21Draw.l0 k l (x4 : Int) b i h) (l', i', h') := by
  intro d
  induction d with
  | zero =>
    intro x4 l i h hd h1x hl ht ha
    obtain ⟨r, i1, h1, e1, r0, r1, _, a1⟩ := Below_eq b i h 5 ha
    have hr := r1 (by omega)
    exact ⟨l, i1, h1, by omega, ht, a1, Ev.step (fun k => spec_l21Draw.l0.eq_2 ..) (Ev.bnd e1 (Ev.neg (by rw [w64 (by omega) (by omega)]; omega) (Ev.now _)))⟩
  | succ d ih =>
    intro x4 l i h hd h1x hl ht ha
    obtain ⟨r, i1, h1, e1, r0, r1, _, a1⟩ := Below_eq b i h 5 ha
    have hr := r1 (by omega)
    by_cases hx : (x4 : Int) ≤ wrap64 (1 + r)
    · obtain ⟨r2, i2, h2, e2, _, _, _, a2⟩ := Below_eq b i1 h1 5 a1
      obtain ⟨q, i3, h3, e3, a3⟩ := Once_eq b i2 h2 3 a2
      have hT : ∀ (s : List Int), s.length ≤ 2 → TinyJ (l ++ [(⟨wrap64 (10 + (x4 : Int)), wrap64 (1 + r2), s⟩ : S46)]) := fun s hs => ⟨by simp; omega, fun x hx => by
        rcases List.mem_append.1 hx with hx | hx
        · exact ht.2 x hx
        · simp only [List.mem_cons, List.not_mem_nil, or_false] at hx
          subst hx
          exact hs⟩
      by_cases hq : q = true
      · obtain ⟨r4, i4, h4, e4, _, _, _, a4⟩ := Below_eq b i3 h3 6 a3
        obtain ⟨l', i', h', p', t', a', e'⟩ := ih (x4 + 1) _ i4 h4 (by omega) (by omega) (by simp; omega) (hT [wrap64 (2 * (wrap64 (1 + r4)))] (by simp)) a4
        refine ⟨l', i', h', p', t', a', Ev.step (fun k => spec_l21Draw.l0.eq_2 ..) (Ev.bnd e1 (Ev.pos hx (Ev.bnd e2 (Ev.bnd e3 (Ev.pos hq (Ev.bnd e4 (Ev.pos (by omega) ?_)))))))⟩
        rw [w64s (show x4 < 4611686018427387904 by omega)]
        exact e'
      · obtain ⟨l', i', h', p', t', a', e'⟩ := ih (x4 + 1) _ i3 h3 (by omega) (by omega) (by simp; omega) (hT [] (by simp)) a3
        refine ⟨l', i', h', p', t', a', Ev.step (fun k => spec_l21Draw.l0.eq_2 ..) (Ev.bnd e1 (Ev.pos hx (Ev.bnd e2 (Ev.bnd e3 (Ev.neg hq (Ev.pos (by omega) ?_))))))⟩
        rw [w64s (show x4 < 4611686018427387904 by omega)]
        exact e'
    · have hx2 : 2 ≤ x4 := by rw [w64 (by omega) (by omega)] at hx; omega
      exact ⟨l, i1, h1, by omega, ht, a1, Ev.step (fun k => spec_l21Draw.l0.eq_2 ..) (Ev.bnd e1 (Ev.neg hx (Ev.now _)))⟩
theorem JDraw_ev (b : List Int) (i h : Int) (ha : At b i) : ∃ l' i' h', 0 < l'.length ∧ TinyJ l' ∧ At b i' ∧ Ev (fun k => spec_l21Draw.f k b i h) (l', i', h') := by
  unfold spec_l21Draw.f
  exact JDraw_l0 b 5 1 [] i h (by omega) (by omega) (by simp) ⟨by simp, fun x hx => by simp at hx⟩ ha
theorem mem_setJ {l : List Jg} {i : Nat} {v x : Jg} (h : x ∈ l.set i v) : x = v ∨ x ∈ l := by
  rcases List.mem_or_eq_of_mem_set h with h | h
  · exact .inr h
  · exact .inl h
theorem tinyJ_set {l : List Jg} (h : TinyJ l) {i : Nat} {v : Jg} (hv : v.f2.length ≤ 2) : TinyJ (l.set i v) :=
  ⟨by rw [List.length_set]; exact h.1, fun x hx => by
    rcases mem_setJ hx with rfl | hx
    · exact hv
    · exact h.2 x hx⟩
theorem tinyJ_rd {l : List Jg} (h : TinyJ l) {i : Int} (h0 : 0 ≤ i) (h1 : i < l.length) : (rd_T46 l i).f2.length ≤ 2 := by
  obtain ⟨n, rfl⟩ : ∃ n : Nat, i = n := ⟨i.toNat, by omega⟩
  rw [rdJg (show n < l.length by omega)]
  exact h.2 _ (List.getElem_mem _)
theorem JAny_ev (b : List Int) (i h : Int) (ha : At b i) : ∃ l' i' h', TinyJ l' ∧ At b i' ∧ Ev (fun k => spec_l21Any.f k b i h) (l', i', h') := by
  obtain ⟨l, i1, h1, hp, ht, a1, e1⟩ := JDraw_ev b i h ha
  obtain ⟨r, i2, h2, e2, r0, r1, _, a2⟩ := Below_eq b i1 h1 (l.length : Int) a1
  have hr := r1 (by omega)
  obtain ⟨c, i3, h3, e3, _, _, _, a3⟩ := Below_eq b i2 h2 12 a2
  have h5 := tinyJ_rd ht r0 hr
  unfold spec_l21Any.f
  by_cases c0 : c = 0
  · obtain ⟨v, i4, h4, e4, _, a4⟩ := DInt_eq b i3 h3 [0, 11, 99, 100] (by simp) a3
    exact ⟨l.set r.toNat ⟨v, (rd_T46 l r).f1, (rd_T46 l r).f2⟩, i4, h4, tinyJ_set ht h5, a4, Ev.bind e1 (Ev.bnd e2 (Ev.bnd e3 (Ev.pos c0 (Ev.bnd e4 (Ev.pos r0 (Ev.pos hr (Ev.now _)))))))⟩
  by_cases c1 : c = 1
  · obtain ⟨v, i4, h4, e4, _, a4⟩ := DInt_eq b i3 h3 [0, 99, 100] (by simp) a3
    exact ⟨l.set r.toNat ⟨(rd_T46 l r).f0, v, (rd_T46 l r).f2⟩, i4, h4, tinyJ_set ht h5, a4, Ev.bind e1 (Ev.bnd e2 (Ev.bnd e3 (Ev.neg c0 (Ev.pos c1 (Ev.bnd e4 (Ev.pos r0 (Ev.pos hr (Ev.now _))))))))⟩
  by_cases c2 : c = 2
  · exact ⟨l.set r.toNat ⟨(rd_T46 l r).f0, (rd_T46 l r).f1, [4, 4]⟩, i3, h3, tinyJ_set ht (by simp), a3, Ev.bind e1 (Ev.bnd e2 (Ev.bnd e3 (Ev.neg c0 (Ev.neg c1 (Ev.pos c2 (Ev.pos r0 (Ev.pos hr (Ev.now _))))))))⟩
  exact ⟨l, i3, h3, ht, a3, Ev.bind e1 (Ev.bnd e2 (Ev.bnd e3 (Ev.neg c0 (Ev.neg c1 (Ev.neg c2 (Ev.now _))))))⟩
theorem DrawSeat_ev (b : List Int) (hb : b.length ≤ 1099511627776) : ∃ (t : List Tm) (l : List Jg) (r : List Pr), Tiny 7 6 t ∧ TinyJ l ∧ r.length ≤ 10 ∧ Ev (fun k => spec_DrawSeatJudges.f k b) (t, l, r) := by
  obtain ⟨h0, e0⟩ := New_ev b hb
  obtain ⟨t, i1, h1, _, ht, a1, e1⟩ := TDraw_ev b 0 h0 ⟨hb, by omega, by omega⟩
  have eR := sPairRound_ev t (ht.small (by omega) (by omega))
  obtain ⟨l, i2, h2, hl, a2, e2⟩ := JAny_ev b i1 h1 a1
  refine ⟨t, l, (roundT t).1, ht, hl, roundT_len t, ?_⟩
  unfold spec_DrawSeatJudges.f
  refine Ev.bind e0 (Ev.bind (a := (t, l, (roundT t).1, i2, h2)) ?_ (Ev.now _))
  unfold spec_l21Case.f
  exact Ev.bind e1 (Ev.bind eR (Ev.bind e2 (Ev.now _)))
theorem judges_l0 (l : List Jg) (s : List Int) (hl : l.length ≤ 1000) (hs : s.length ≤ 1000) : ∀ (d n : Nat), n + d = l.length → Ev (fun k => laws_FnJudges.l0 k l s (freeJ s l) (n : Int)) true := by
  have hf := freeJ_length s l
  intro d
  induction d with
  | zero =>
    intro n hd
    exact Ev.step (fun k => laws_FnJudges.l0.eq_2 ..) (Ev.neg (by omega) (Ev.now _))
  | succ d ih =>
    intro n hd
    have hn : n < l.length := by omega
    refine Ev.step (fun k => laws_FnJudges.l0.eq_2 ..) (Ev.pos (by omega) (Ev.pos (by omega) ?_))
    simp only [rdJg hn, w64s (show n < 4611686018427387904 by omega)]
    refine Ev.bind (contains_ev _ _ (by omega)) (Ev.bind (contains_ev _ _ (by omega)) (Ev.neg ?_ (ih (n + 1) (by omega))))
    have hm := mem_freeJ s l (l[n]).f0
    by_cases h : (l[n]).f0 ∈ s
    · have h2 : ¬ (l[n]).f0 ∈ freeJ s l := fun k => (hm.1 k).2 h
      simp [h, h2]
    · have h2 : (l[n]).f0 ∈ freeJ s l := hm.2 ⟨⟨l[n], List.getElem_mem _, rfl⟩, h⟩
      simp [h, h2]
theorem judges_j0 (l : List Jg) (s : List Int) (hl : l.length ≤ 1000) (hs : s.length ≤ 1000) (hj : SmallJ l) : Ev (fun k => laws_FnJudges.j0 k l s false) true := by
  refine Ev.step (fun k => laws_FnJudges.j0.eq_2 ..) (Ev.neg (by simp) (Ev.bind (iFree_ev l s (by omega) (by omega)) ?_))
  exact judges_l0 l s hl hs l.length 0 (by omega)
theorem FnJudges_pure (l0 : List Int) (b0 : l0.length ≤ 9223372036854775807) : ∃ k, laws_FnJudges.f k l0 = some true := by
  refine Ev.rounds (g := fun k => laws_FnJudges.f k l0) ?_
  unfold laws_FnJudges.f
  refine Ev.bnd (big_eq l0) (Ev.ite (fun _ => Ev.now _) (fun hb => ?_))
  have hl : l0.length ≤ 1099511627776 := by simp only [decide_eq_true_eq] at hb; omega
  obtain ⟨t, l, r, ht, hj, hr, e⟩ := DrawSeat_ev l0 hl
  have hs : Small t := ht.small (by omega) (by omega)
  have hsj := hj.small
  have hS := iSeatJ_ev t l r hs hsj (by omega)
  have hlen := seatT_len t l r
  obtain ⟨f1, f2, _⟩ := seatT_facts t l r
  have hsm := seating_ev t l hs hsj r [] (by simp; omega)
  have hsame : okJudges l = true → areT t = true → (seatT t l r).2 = (seatR t l r []).2 := fun h1 h2 => by unfold seatT; rw [if_pos ⟨h1, h2⟩]
  have hll := hj.1
  refine Ev.bind e (Ev.bind hS ?_)
  generalize seatT t l r = z at hlen f1 f2 hsame
  obtain ⟨s, ok⟩ := z
  simp only at hlen f1 f2 hsame ⊢
  have hfin := judges_j0 l s (by omega) (by omega) hsj
  have hne : ∀ b : Bool, ok = b → Ev (fun k => laws_FnJudges.j0 k l s (ok != b)) true := fun b h => by
    rw [h, bne_self_eq_false]
    exact hfin
  refine Ev.ite (fun h => ?_) (fun h => ?_)
  · refine Ev.bind (iAreSeated_ev t l hs hsj r s) (Ev.pos (f1 h) ?_)
    refine Ev.bind (iAreJudges_ev l hsj) (Ev.ite (fun h1 => ?_) (fun _ => hfin))
    refine Ev.bind (iAreTeams_ev t hs) (Ev.ite (fun h2 => ?_) (fun _ => hfin))
    exact Ev.bind hsm (hne _ (hsame h1 h2))
  · have h0 := f2 (by simpa using h)
    refine Ev.neg (by rw [h0]; simp) ?_
    refine Ev.bind (iAreJudges_ev l hsj) (Ev.ite (fun h1 => ?_) (fun _ => hfin))
    refine Ev.bind (iAreTeams_ev t hs) (Ev.ite (fun h2 => ?_) (fun _ => hfin))
    exact Ev.bind hsm (hne _ (hsame h1 h2))
end Go.Proofs.Ytdlebbmmanjffaa.L
end
