/- What the row FnPairs rests on, put together: A82, LOpen, LTeam2, LCont, LHas, LMet, LMay, LOrd, LPerm, LPrD, LRoundP, LStandP, LSide, LPairR, LPairS, LConc, LPairI, LRoundi, LGapi, LDraw0, LAddF, LAddS, LDrawT, LXFnPairs. No condition. -/
import Derived.Test.YtdlebbmmanjffaaSFnPairsx1
import Derived.Test.YtdlebbmmanjffaaSFnPairsx0
import Derived.Test.YtdlebbmmanjffaaSFnPairsx2
import Derived.Test.YtdlebbmmanjffaaSFnPairsx3
import Derived.Test.YtdlebbmmanjffaaSFnPairsx4
import Derived.Deep.Slices
import Derived.Deep.Fields
import Derived.ChangeSame
import Derived.Lib.SmallJoins
section
namespace Go.Proofs.Ytdlebbmmanjffaa.A
open Go.RowKit Go.Proofs.YtdlebbmmanjffaaW.PrintWords Go.Proofs.YtdlebbmmanjffaaW.PrintLast Go.Proofs.YtdlebbmmanjffaaW.PrintMore
attribute [local go_sem] max2_int min2_int max_two min_two max_three min_three max_four min_four   -- for this text's walks alone
set_option linter.unusedVariables false
set_option linter.unusedSimpArgs false
attribute [local go_sem high] eqA48
theorem am {p : Prop} (h : p) : Aside0 p := ⟨h⟩
mutual
def laws_FnPairs.j0 : Nat → List Int → List (S78) → List (S48) → Bool → Option (Bool)
  | 0, _, _, _, _ => none
  | k + 1, x0, x3, x4, x63 => if x63 = true then (some false) else (laws_FnPairs.l0 k x0 x3 x4 0)
def laws_FnPairs.l0 : Nat → List Int → List (S78) → List (S48) → Int → Option (Bool)
  | 0, _, _, _, _ => none
  | k + 1, x0, x3, x4, x8 => if x8 < (x4.length : Int) then (if 0 ≤ x8 then ((impl_FindTeam.f x3 ((rd_T48 x4 x8).f0)).bind fun t713 => (if 0 ≤ t713 then (if t713 < (x3.length : Int) then ((impl_FindTeam.f x3 ((rd_T48 x4 x8).f1)).bind fun t716 => (if 0 ≤ t716 then (if t716 < (x3.length : Int) then (if ((rd_T78 x3 t713).f4) > ((rd_T78 x3 t716).f4) then (some false) else (laws_FnPairs.l0 k x0 x3 x4 (wrap64 (x8 + 1)))) else (none)) else (none))) else (none)) else (none))) else (none)) else ((spec_DrawMayMeet.f k x0).bind fun bt718 => ((impl_SideFor.f k bt718.1 bt718.2.1 bt718.2.2).bind fun bt723 => ((impl_MayMeet.f k bt718.1 bt718.2.1 bt718.2.2).bind fun t726 => ((impl_MayMeet.f k bt718.1 bt718.2.2 bt718.2.1).bind fun t727 => (if (t726 == t727) = true then ((impl_SideFor.f k bt718.1 bt718.2.2 bt718.2.1).bind fun bt728 => (if (bt723.1 == bt728.1 && (bt723.2 == bt728.2)) = true then ((impl_SideGap.f k x3 x4).bind fun t730 => (some (decide (t730 ≥ 0)))) else (some false))) else (some false))))))
end
def laws_FnPairs.f (k : Nat) (l0 : List Int) : Option (Bool) := (laws_big.f l0).bind fun t689 => (if t689 = true then (some true) else ((spec_DrawPairRound.f k l0).bind fun t690 => ((impl_PairRound.f k t690).bind fun bt693 => ((spec_PairRound.f k t690).bind fun bt697 => (if (bt693.2 != bt697.2) = true then (some false) else (if bt693.2 = true then ((impl_IsRound.f k t690 bt693.1).bind fun t701 => (if t701 = true then ((impl_AreTeams.f k t690).bind fun t702 => (if t702 = true then (if ((t690.length : Int) % 2) = 0 then ((impl_Standing.f k t690).bind fun t703 => ((laws_pairing.f k t690 t703).bind fun t706 => (laws_FnPairs.j0 k l0 t690 bt693.1 (bt693.2 != t706)))) else (laws_FnPairs.j0 k l0 t690 bt693.1 false)) else (laws_FnPairs.j0 k l0 t690 bt693.1 false))) else (laws_FnPairs.j0 k l0 t690 bt693.1 true))) else (if (bt693.1.length : Int) > 0 then (laws_FnPairs.j0 k l0 t690 bt693.1 true) else ((impl_AreTeams.f k t690).bind fun t707 => (if t707 = true then (if ((t690.length : Int) % 2) = 0 then ((impl_Standing.f k t690).bind fun t708 => ((laws_pairing.f k t690 t708).bind fun t711 => (laws_FnPairs.j0 k l0 t690 bt693.1 (bt693.2 != t711)))) else (laws_FnPairs.j0 k l0 t690 bt693.1 false)) else (laws_FnPairs.j0 k l0 t690 bt693.1 false))))))))))
def laws_FnPairs.T13 : Bool × List (List Nat × List Nat) := (true, [([], []), ([], []), ([], []), ([], []), ([2, 3], [2, 3]), ([4], [4]), ([5], [5]), ([1, 6], [1, 6]), ([0, 7], [0, 7]), ([8], [8]), ([9], [9]), ([], []), ([], []), ([], []), ([], []), ([13, 14], [13, 14]), ([15], [15]), ([16], [16]), ([12, 17, 7], [12, 17]), ([11, 18], [11, 18]), ([19], [19]), ([20], [20]), ([10, 21], [10, 21])])
def laws_FnPairs.B13 : List Nat := [0, 0, 0, 0, 12, 28, 60, 126, 255, 511, 1023, 0, 0, 0, 0, 24576, 57344, 122880, 258302, 522494, 1046782, 2095358, 4194303]
theorem laws_FnPairs.tab13 : rtab .any (opsOf Try.f9 13) = laws_FnPairs.T13 := by kernel_rfl
theorem laws_FnPairs.bits13 : waitsOk laws_FnPairs.T13.2 laws_FnPairs.B13 = true := by kernel_rfl
def laws_FnPairs.T17 : Bool × List (List Nat × List Nat) := (true, [([], []), ([], []), ([], []), ([0, 1, 2], [0, 1, 2]), ([], []), ([], []), ([], []), ([4, 5, 6, 3], [4, 5, 6]), ([3, 7], [3, 7]), ([8, 7], [8]), ([9], [9]), ([9], [9]), ([9], [9]), ([9], [9]), ([11, 12, 13, 9, 9], [9, 11, 12, 13]), ([10, 14, 9], [9, 10, 14]), ([9, 15], [9, 15]), ([16, 14], [16]), ([17], [17]), ([17], [17]), ([18, 19, 17, 17], [17, 18, 19]), ([20, 17], [17, 20]), ([17, 21], [17, 21]), ([22, 20, 0, 1, 2, 3, 4, 5, 6, 7, 8, 9, 10, 11, 12, 13, 14, 15, 16, 17, 18, 19, 20, 21, 22], [22])])
def laws_FnPairs.B17 : List Nat := [0, 0, 0, 7, 0, 0, 0, 127, 255, 511, 1023, 1023, 1023, 1023, 15359, 32767, 65535, 131071, 262143, 262143, 1048575, 2097151, 4194303, 8388607]
theorem laws_FnPairs.tab17 : rtab .any (opsOf Try.f9 17) = laws_FnPairs.T17 := by kernel_rfl
theorem laws_FnPairs.bits17 : waitsOk laws_FnPairs.T17.2 laws_FnPairs.B17 = true := by kernel_rfl
set_option maxHeartbeats 8000000 in
set_option maxRecDepth 100000 in
theorem laws_FnPairs.calls (k : Nat) (A0 : Option Addr) (c0 : Nat) (l0 : List Int) (r : Bool) (w : World) (hr0 : Kd.C (Kd.int .u8) w A0 l0.length l0) (hc0 : l0.length ≤ c0) (h : laws_FnPairs.f k l0 = some r) :
  Calls Try.prog 9 #[.slice A0 l0.length c0] w fun e w' => e = .returned (.bool r) ∧ Below w.heap.size w w' := by
 have hu48 := Try.underlying48; have HR0 := am hr0; have HC0 := am hc0; clear hr0 hc0; have HB := am (Below.refl w.heap.size w); have H : ((laws_big.f l0).bind fun t689 => (if t689 = true then (some true) else ((spec_DrawPairRound.f k l0).bind fun t690 => ((impl_PairRound.f k t690).bind fun bt693 => ((spec_PairRound.f k t690).bind fun bt697 => (if (bt693.2 != bt697.2) = true then (some false) else (if bt693.2 = true then ((impl_IsRound.f k t690 bt693.1).bind fun t701 => (if t701 = true then ((impl_AreTeams.f k t690).bind fun t702 => (if t702 = true then (if ((t690.length : Int) % 2) = 0 then ((impl_Standing.f k t690).bind fun t703 => ((laws_pairing.f k t690 t703).bind fun t706 => (laws_FnPairs.j0 k l0 t690 bt693.1 (bt693.2 != t706)))) else (laws_FnPairs.j0 k l0 t690 bt693.1 false)) else (laws_FnPairs.j0 k l0 t690 bt693.1 false))) else (laws_FnPairs.j0 k l0 t690 bt693.1 true))) else (if (bt693.1.length : Int) > 0 then (laws_FnPairs.j0 k l0 t690 bt693.1 true) else ((impl_AreTeams.f k t690).bind fun t707 => (if t707 = true then (if ((t690.length : Int) % 2) = 0 then ((impl_Standing.f k t690).bind fun t708 => ((laws_pairing.f k t690 t708).bind fun t711 => (laws_FnPairs.j0 k l0 t690 bt693.1 (bt693.2 != t711)))) else (laws_FnPairs.j0 k l0 t690 bt693.1 false)) else (laws_FnPairs.j0 k l0 t690 bt693.1 false))))))))))) = some r := h; clear h; replace H := Option.bind_eq_some_iff.mp H; obtain ⟨t689, A20, H⟩ := H; replace H : (if t689 = true then (some true) else ((spec_DrawPairRound.f k l0).bind fun t690 => ((impl_PairRound.f k t690).bind fun bt693 => ((spec_PairRound.f k t690).bind fun bt697 => (if (bt693.2 != bt697.2) = true then (some false) else (if bt693.2 = true then ((impl_IsRound.f k t690 bt693.1).bind fun t701 => (if t701 = true then ((impl_AreTeams.f k t690).bind fun t702 => (if t702 = true then (if ((t690.length : Int) % 2) = 0 then ((impl_Standing.f k t690).bind fun t703 => ((laws_pairing.f k t690 t703).bind fun t706 => (laws_FnPairs.j0 k l0 t690 bt693.1 (bt693.2 != t706)))) else (laws_FnPairs.j0 k l0 t690 bt693.1 false)) else (laws_FnPairs.j0 k l0 t690 bt693.1 false))) else (laws_FnPairs.j0 k l0 t690 bt693.1 true))) else (if (bt693.1.length : Int) > 0 then (laws_FnPairs.j0 k l0 t690 bt693.1 true) else ((impl_AreTeams.f k t690).bind fun t707 => (if t707 = true then (if ((t690.length : Int) % 2) = 0 then ((impl_Standing.f k t690).bind fun t708 => ((laws_pairing.f k t690 t708).bind fun t711 => (laws_FnPairs.j0 k l0 t690 bt693.1 (bt693.2 != t711)))) else (laws_FnPairs.j0 k l0 t690 bt693.1 false)) else (laws_FnPairs.j0 k l0 t690 bt693.1 false)))))))))) = some r := H; have A2 := am A20; clear A20; by_cases c3 : t689 = true
 rotate_left
 ·
  replace c3 := Bool.eq_false_iff.mpr c3; subst c3; have H1 : ((spec_DrawPairRound.f k l0).bind fun t690 => ((impl_PairRound.f k t690).bind fun bt693 => ((spec_PairRound.f k t690).bind fun bt697 => (if (bt693.2 != bt697.2) = true then (some false) else (if bt693.2 = true then ((impl_IsRound.f k t690 bt693.1).bind fun t701 => (if t701 = true then ((impl_AreTeams.f k t690).bind fun t702 => (if t702 = true then (if ((t690.length : Int) % 2) = 0 then ((impl_Standing.f k t690).bind fun t703 => ((laws_pairing.f k t690 t703).bind fun t706 => (laws_FnPairs.j0 k l0 t690 bt693.1 (bt693.2 != t706)))) else (laws_FnPairs.j0 k l0 t690 bt693.1 false)) else (laws_FnPairs.j0 k l0 t690 bt693.1 false))) else (laws_FnPairs.j0 k l0 t690 bt693.1 true))) else (if (bt693.1.length : Int) > 0 then (laws_FnPairs.j0 k l0 t690 bt693.1 true) else ((impl_AreTeams.f k t690).bind fun t707 => (if t707 = true then (if ((t690.length : Int) % 2) = 0 then ((impl_Standing.f k t690).bind fun t708 => ((laws_pairing.f k t690 t708).bind fun t711 => (laws_FnPairs.j0 k l0 t690 bt693.1 (bt693.2 != t711)))) else (laws_FnPairs.j0 k l0 t690 bt693.1 false)) else (laws_FnPairs.j0 k l0 t690 bt693.1 false))))))))) = some r := by rw [if_neg (show ¬ (false = true) by decide)] at H; exact H
  clear H; have H := H1; clear H1; replace H := Option.bind_eq_some_iff.mp H; obtain ⟨t690, A40, H⟩ := H; replace H : ((impl_PairRound.f k t690).bind fun bt693 => ((spec_PairRound.f k t690).bind fun bt697 => (if (bt693.2 != bt697.2) = true then (some false) else (if bt693.2 = true then ((impl_IsRound.f k t690 bt693.1).bind fun t701 => (if t701 = true then ((impl_AreTeams.f k t690).bind fun t702 => (if t702 = true then (if ((t690.length : Int) % 2) = 0 then ((impl_Standing.f k t690).bind fun t703 => ((laws_pairing.f k t690 t703).bind fun t706 => (laws_FnPairs.j0 k l0 t690 bt693.1 (bt693.2 != t706)))) else (laws_FnPairs.j0 k l0 t690 bt693.1 false)) else (laws_FnPairs.j0 k l0 t690 bt693.1 false))) else (laws_FnPairs.j0 k l0 t690 bt693.1 true))) else (if (bt693.1.length : Int) > 0 then (laws_FnPairs.j0 k l0 t690 bt693.1 true) else ((impl_AreTeams.f k t690).bind fun t707 => (if t707 = true then (if ((t690.length : Int) % 2) = 0 then ((impl_Standing.f k t690).bind fun t708 => ((laws_pairing.f k t690 t708).bind fun t711 => (laws_FnPairs.j0 k l0 t690 bt693.1 (bt693.2 != t711)))) else (laws_FnPairs.j0 k l0 t690 bt693.1 false)) else (laws_FnPairs.j0 k l0 t690 bt693.1 false)))))))) = some r := H; have A4 := am A40; clear A40; replace H := Option.bind_eq_some_iff.mp H; obtain ⟨⟨t693, t694⟩, A50, H⟩ := H; replace H : ((spec_PairRound.f k t690).bind fun bt697 => (if (t694 != bt697.2) = true then (some false) else (if t694 = true then ((impl_IsRound.f k t690 t693).bind fun t701 => (if t701 = true then ((impl_AreTeams.f k t690).bind fun t702 => (if t702 = true then (if ((t690.length : Int) % 2) = 0 then ((impl_Standing.f k t690).bind fun t703 => ((laws_pairing.f k t690 t703).bind fun t706 => (laws_FnPairs.j0 k l0 t690 t693 (t694 != t706)))) else (laws_FnPairs.j0 k l0 t690 t693 false)) else (laws_FnPairs.j0 k l0 t690 t693 false))) else (laws_FnPairs.j0 k l0 t690 t693 true))) else (if (t693.length : Int) > 0 then (laws_FnPairs.j0 k l0 t690 t693 true) else ((impl_AreTeams.f k t690).bind fun t707 => (if t707 = true then (if ((t690.length : Int) % 2) = 0 then ((impl_Standing.f k t690).bind fun t708 => ((laws_pairing.f k t690 t708).bind fun t711 => (laws_FnPairs.j0 k l0 t690 t693 (t694 != t711)))) else (laws_FnPairs.j0 k l0 t690 t693 false)) else (laws_FnPairs.j0 k l0 t690 t693 false))))))) = some r := H; have A5 := am A50; clear A50; replace H := Option.bind_eq_some_iff.mp H; obtain ⟨⟨t697, t698⟩, A60, H⟩ := H; replace H : (if (t694 != t698) = true then (some false) else (if t694 = true then ((impl_IsRound.f k t690 t693).bind fun t701 => (if t701 = true then ((impl_AreTeams.f k t690).bind fun t702 => (if t702 = true then (if ((t690.length : Int) % 2) = 0 then ((impl_Standing.f k t690).bind fun t703 => ((laws_pairing.f k t690 t703).bind fun t706 => (laws_FnPairs.j0 k l0 t690 t693 (t694 != t706)))) else (laws_FnPairs.j0 k l0 t690 t693 false)) else (laws_FnPairs.j0 k l0 t690 t693 false))) else (laws_FnPairs.j0 k l0 t690 t693 true))) else (if (t693.length : Int) > 0 then (laws_FnPairs.j0 k l0 t690 t693 true) else ((impl_AreTeams.f k t690).bind fun t707 => (if t707 = true then (if ((t690.length : Int) % 2) = 0 then ((impl_Standing.f k t690).bind fun t708 => ((laws_pairing.f k t690 t708).bind fun t711 => (laws_FnPairs.j0 k l0 t690 t693 (t694 != t711)))) else (laws_FnPairs.j0 k l0 t690 t693 false)) else (laws_FnPairs.j0 k l0 t690 t693 false)))))) = some r := H; have A6 := am A60; clear A60; by_cases c7 : (t694 != t698) = true
  rotate_left
  ·
   rw [if_neg c7] at H; have c7b0 : (t694 != t698) = false := by simpa using c7
   (try (have c7b1 : decide (t694 = t698) = true := by simpa using c7)); (try (have c7b2 : (t694 == t698) = true := by simpa using c7)); clear c7; have HC12 := am H; clear H; go_enter Try.func9, Try.ntmps9
   go_upto_region 8 with (first | ((with_reducible refine gate_callee (f := 40) rfl ?_); refine goesL_ (some 14) rfl rfl Try.func40 (by kernel_rfl) rfl #[.slice A0 l0.length c0] rfl (by (try simp only [Y1, Y2, Y3]); first | done | rfl | (simp only [Y4, Y5]; rfl)) ?_; (with_reducible refine (laws_big.calls _ _ l0 false _ ?side1 ?side2 A2.out).mono ?_); (case side1 => repeat (first | exact HR0.out | (with_reducible first | refine cA ?_ _ | refine cN ?_ _ | refine cD ?_))); (case side2 => exact HC0.out); rintro e w' ⟨rfl, ⟨nd, rfl⟩⟩; refine ⟨_, rfl, ?_⟩) | ((with_reducible refine gate_callee (f := 45) rfl ?_); refine goesL_ (some 16) rfl rfl Try.func45 (by kernel_rfl) rfl #[.slice A0 l0.length c0] rfl (by (try simp only [Y1, Y2, Y3]); first | done | rfl | (simp only [Y4, Y5]; rfl)) ?_; (with_reducible refine (spec_DrawPairRound.calls k _ _ l0 t690 _ ?side1 ?side2 A4.out).mono ?_); (case side1 => repeat (first | exact HR0.out | (with_reducible first | refine cA ?_ _ | refine cN ?_ _ | refine cD ?_))); (case side2 => exact HC0.out); rintro e w13 ⟨v691, rfl, ho0, hb⟩; refine ⟨_, rfl, ?_⟩; replace HO692 := am (Kd.S_lower ho0 (below_size (by repeat (first | (with_reducible first | exact HB.out | apply bA | apply bN | apply bD) | exact HB.out)))); replace HB := am (below_step (by repeat (first | (with_reducible first | exact HB.out | apply bA | apply bN | apply bD) | exact HB.out)) hb); (try clear hb); (try clear hb2); (try clear hk); (try clear hi); (try clear ho0); obtain ⟨Ao14, co14, eo14⟩ := Kd.S_slice HO692.out; subst eo14) | ((with_reducible refine gate_callee (f := 46) rfl ?_); refine goesL_ (some 19) rfl rfl Try.func46 (by kernel_rfl) rfl #[.slice Ao14 t690.length co14] rfl (by (try simp only [Y1, Y2, Y3]); first | done | rfl | (simp only [Y4, Y5]; rfl)) ?_; (with_reducible refine (impl_PairRound.calls k _ _ t690 t693 t694 _ ?side1 ?side2 A5.out).mono ?_); (case side1 => repeat (first | exact (Kd.S_reads' HO692.out).2.2 | (with_reducible first | refine cA ?_ _ | refine cN ?_ _ | refine cD ?_))); (case side2 => exact (Kd.S_reads' HO692.out).2.1); rintro e w15 ⟨v695, rfl, ho0, hb⟩; refine ⟨_, rfl, ?_⟩; replace HO692 := am (Kd.S_below (by (with_reducible repeat (first | apply sA | apply sN | apply sD)); exact HO692.out) hb); replace HO696 := am (Kd.R_lower ho0 (below_size (by repeat (first | (with_reducible first | exact HB.out | apply bA | apply bN | apply bD) | exact HB.out)))); replace HB := am (below_step (by repeat (first | (with_reducible first | exact HB.out | apply bA | apply bN | apply bD) | exact HB.out)) hb); (try clear hb); (try clear hb2); (try clear hk); (try clear hi); (try clear ho0)) | ((with_reducible refine gate_callee (f := 47) rfl ?_); refine goesL_ (some 24) rfl rfl Try.func47 (by kernel_rfl) rfl #[.slice Ao14 t690.length co14] rfl (by (try simp only [Y1, Y2, Y3]); first | done | rfl | (simp only [Y4, Y5]; rfl)) ?_; (with_reducible refine (spec_PairRound.calls k _ _ t690 t697 t698 _ ?side1 ?side2 A6.out).mono ?_); (case side1 => repeat (first | exact (Kd.S_reads' HO692.out).2.2 | (with_reducible first | refine cA ?_ _ | refine cN ?_ _ | refine cD ?_))); (case side2 => exact (Kd.S_reads' HO692.out).2.1); rintro e w16 ⟨v699, rfl, ho0, hb⟩; refine ⟨_, rfl, ?_⟩; have n0_ := am (Kd.S_below (by (with_reducible repeat (first | apply sA | apply sN | apply sD)); exact HO692.out) hb); have n1_ := am (Kd.R_elder' (by (with_reducible repeat (first | apply rA | apply rN | apply rD)); exact HO696.out) (Kd.R_base ho0) hb); have n2_ := am (Kd.R_lower (Kd.R_new' ho0 (Kd.R_lt (by (with_reducible repeat (first | apply rA | apply rN | apply rD)); exact HO696.out))) (below_size (by repeat (first | (with_reducible first | exact HB.out | apply bA | apply bN | apply bD) | exact HB.out)))); have n3_ := am (below_step (by repeat (first | (with_reducible first | exact HB.out | apply bA | apply bN | apply bD) | exact HB.out)) hb); clear HO692 HO696 HB; have HO692 := n0_; have HO696 := n1_; have HO700 := n2_; have HB := n3_; clear n0_ n1_ n2_ n3_; (try clear hb); (try clear hb2); (try clear hk); (try clear hi); (try clear ho0)))
   (try simp only [Act.put, Z1, Z2, Z3]); go_cut [63] (fun v63 wc => ∃ (kq : Nat) (x63_11 : Bool), v63 = .bool x63_11 ∧ Aside0 (laws_FnPairs.j0 kq l0 t690 t693 x63_11 = some r) ∧ Aside0 (kq ≤ k) ∧ Aside0 (Kd.S k78 78 wc w.heap.size (fun _ => True) (.slice Ao14 t690.length co14) t690) ∧ Aside0 (Kd.R k48 48 wc w.heap.size (fun _ => True) v695 t693) ∧ Aside0 (Below w.heap.size w wc))
   case first =>
    have H := HC12.out; clear HC12; by_cases c17 : t694 = true
    rotate_left
    ·
     replace c17 := Bool.eq_false_iff.mpr c17; subst c17; have H1 : (if (t693.length : Int) > 0 then (laws_FnPairs.j0 k l0 t690 t693 true) else ((impl_AreTeams.f k t690).bind fun t707 => (if t707 = true then (if ((t690.length : Int) % 2) = 0 then ((impl_Standing.f k t690).bind fun t708 => ((laws_pairing.f k t690 t708).bind fun t711 => (laws_FnPairs.j0 k l0 t690 t693 (false != t711)))) else (laws_FnPairs.j0 k l0 t690 t693 false)) else (laws_FnPairs.j0 k l0 t690 t693 false)))) = some r := by rw [if_neg (show ¬ (false = true) by decide)] at H; exact H
     clear H; have H := H1; clear H1; by_cases c39 : (t693.length : Int) > 0
     rotate_left
     ·
      rw [if_neg c39] at H; have c39b0 : decide (0 < (t693.length : Int)) = false := decide_eq_false c39; have c39b1 : decide (0 < t693.length) = false := decide_eq_false (by omega); clear c39; replace H := Option.bind_eq_some_iff.mp H; obtain ⟨t707, A410, H⟩ := H; replace H : (if t707 = true then (if ((t690.length : Int) % 2) = 0 then ((impl_Standing.f k t690).bind fun t708 => ((laws_pairing.f k t690 t708).bind fun t711 => (laws_FnPairs.j0 k l0 t690 t693 (false != t711)))) else (laws_FnPairs.j0 k l0 t690 t693 false)) else (laws_FnPairs.j0 k l0 t690 t693 false)) = some r := H; have A41 := am A410; clear A410; by_cases c42 : t707 = true
      rotate_left
      ·
       replace c42 := Bool.eq_false_iff.mpr c42; subst c42; have H1 : (laws_FnPairs.j0 k l0 t690 t693 false) = some r := by rw [if_neg (show ¬ (false = true) by decide)] at H; exact H
       clear H; have H := H1; clear H1; have H' := am H; clear H; obtain ⟨Ao53, co53, eo53⟩ := Kd.R_slice HO696.out; subst eo53; go_wp2_with (first | (go_at_call 42; (with_reducible refine (impl_AreTeams.calls k _ _ t690 false _ ?side1 ?side2 A41.out).mono ?_); (case side1 => repeat (first | exact (Kd.S_reads' HO692.out).2.2 | (with_reducible first | refine cA ?_ _ | refine cN ?_ _ | refine cD ?_))); (case side2 => exact (Kd.S_reads' HO692.out).2.1); rintro e w54 ⟨rfl, hb⟩; replace HO692 := am (Kd.S_below (by (with_reducible repeat (first | apply sA | apply sN | apply sD)); exact HO692.out) hb); replace HO696 := am (Kd.R_below (by (with_reducible repeat (first | apply rA | apply rN | apply rD)); exact HO696.out) hb); replace HO700 := am (Kd.R_below (by (with_reducible repeat (first | apply rA | apply rN | apply rD)); exact HO700.out) hb); replace HB := am (below_step (by repeat (first | (with_reducible first | exact HB.out | apply bA | apply bN | apply bD) | exact HB.out)) hb); (try clear hb); (try clear hb2); (try clear hk); (try clear hi)))
       go_meet
       case rel => exact ⟨_, (false), (by first | rfl | (simp; done) | (simp [*]; done)), H', ⟨by first | omega | exact Nat.le_refl _⟩, ⟨by (with_reducible repeat (first | apply sA | apply sN | apply sD)); exact HO692.out⟩, ⟨by (with_reducible repeat (first | apply rA | apply rN | apply rD)); exact Kd.R_mono HO696.out (fun _ hk => trivial)⟩, ⟨by repeat (first | (with_reducible first | exact HB.out | apply bA | apply bN | apply bD) | exact HB.out)⟩⟩
      subst c42; have H1 : (if ((t690.length : Int) % 2) = 0 then ((impl_Standing.f k t690).bind fun t708 => ((laws_pairing.f k t690 t708).bind fun t711 => (laws_FnPairs.j0 k l0 t690 t693 (false != t711)))) else (laws_FnPairs.j0 k l0 t690 t693 false)) = some r := by rw [if_pos rfl] at H; exact H
      clear H; have H := H1; clear H1; by_cases c43 : ((t690.length : Int) % 2) = 0
      rotate_left
      ·
       rw [if_neg c43] at H; have c43b0 : (((t690.length : Int) % 2) == 0) = false := beq_eq_false_iff_ne.mpr c43; have c43b1 : (((t690.length : Int) % 2) != 0) = true := bne_iff_ne.mpr c43; have H' := am H; clear H; obtain ⟨Ao51, co51, eo51⟩ := Kd.R_slice HO696.out; subst eo51; go_wp2_with (first | (go_at_call 42; (with_reducible refine (impl_AreTeams.calls k _ _ t690 true _ ?side1 ?side2 A41.out).mono ?_); (case side1 => repeat (first | exact (Kd.S_reads' HO692.out).2.2 | (with_reducible first | refine cA ?_ _ | refine cN ?_ _ | refine cD ?_))); (case side2 => exact (Kd.S_reads' HO692.out).2.1); rintro e w52 ⟨rfl, hb⟩; replace HO692 := am (Kd.S_below (by (with_reducible repeat (first | apply sA | apply sN | apply sD)); exact HO692.out) hb); replace HO696 := am (Kd.R_below (by (with_reducible repeat (first | apply rA | apply rN | apply rD)); exact HO696.out) hb); replace HO700 := am (Kd.R_below (by (with_reducible repeat (first | apply rA | apply rN | apply rD)); exact HO700.out) hb); replace HB := am (below_step (by repeat (first | (with_reducible first | exact HB.out | apply bA | apply bN | apply bD) | exact HB.out)) hb); (try clear hb); (try clear hb2); (try clear hk); (try clear hi)))
       go_meet
       case rel => exact ⟨_, (false), (by first | rfl | (simp; done) | (simp [*]; done)), H', ⟨by first | omega | exact Nat.le_refl _⟩, ⟨by (with_reducible repeat (first | apply sA | apply sN | apply sD)); exact HO692.out⟩, ⟨by (with_reducible repeat (first | apply rA | apply rN | apply rD)); exact Kd.R_mono HO696.out (fun _ hk => trivial)⟩, ⟨by repeat (first | (with_reducible first | exact HB.out | apply bA | apply bN | apply bD) | exact HB.out)⟩⟩
      rw [if_pos c43] at H; have c43b0 : (((t690.length : Int) % 2) == 0) = true := beq_iff_eq.mpr c43; have c43b1 : (((t690.length : Int) % 2) != 0) = false := bne_eq_false_iff_eq.mpr c43; clear c43; replace H := Option.bind_eq_some_iff.mp H; obtain ⟨t708, A440, H⟩ := H; replace H : ((laws_pairing.f k t690 t708).bind fun t711 => (laws_FnPairs.j0 k l0 t690 t693 (false != t711))) = some r := H; have A44 := am A440; clear A440; replace H := Option.bind_eq_some_iff.mp H; obtain ⟨t711, A450, H⟩ := H; replace H : (laws_FnPairs.j0 k l0 t690 t693 (false != t711)) = some r := H; have A45 := am A450; clear A450; have H' := am H; clear H; obtain ⟨Ao46, co46, eo46⟩ := Kd.R_slice HO696.out; subst eo46; go_wp2_with (first | (go_at_call 42; (with_reducible refine (impl_AreTeams.calls k _ _ t690 true _ ?side1 ?side2 A41.out).mono ?_); (case side1 => repeat (first | exact (Kd.S_reads' HO692.out).2.2 | (with_reducible first | refine cA ?_ _ | refine cN ?_ _ | refine cD ?_))); (case side2 => exact (Kd.S_reads' HO692.out).2.1); rintro e w47 ⟨rfl, hb⟩; replace HO692 := am (Kd.S_below (by (with_reducible repeat (first | apply sA | apply sN | apply sD)); exact HO692.out) hb); replace HO696 := am (Kd.R_below (by (with_reducible repeat (first | apply rA | apply rN | apply rD)); exact HO696.out) hb); replace HO700 := am (Kd.R_below (by (with_reducible repeat (first | apply rA | apply rN | apply rD)); exact HO700.out) hb); replace HB := am (below_step (by repeat (first | (with_reducible first | exact HB.out | apply bA | apply bN | apply bD) | exact HB.out)) hb); (try clear hb); (try clear hb2); (try clear hk); (try clear hi)) | (go_at_call 50; (with_reducible refine (impl_Standing.calls k _ _ t690 t708 _ ?side1 ?side2 A44.out).mono ?_); (case side1 => repeat (first | exact (Kd.S_reads' HO692.out).2.2 | (with_reducible first | refine cA ?_ _ | refine cN ?_ _ | refine cD ?_))); (case side2 => exact (Kd.S_reads' HO692.out).2.1); rintro e w48 ⟨v709, rfl, ho0, hb⟩; replace HO692 := am (Kd.S_elder' (by (with_reducible repeat (first | apply sA | apply sN | apply sD)); exact HO692.out) (Kd.R_base ho0) hb); replace HO696 := am (Kd.R_below (by (with_reducible repeat (first | apply rA | apply rN | apply rD)); exact HO696.out) hb); replace HO700 := am (Kd.R_below (by (with_reducible repeat (first | apply rA | apply rN | apply rD)); exact HO700.out) hb); replace HO710 := am (Kd.R_lower ho0 (below_size (by repeat (first | (with_reducible first | exact HB.out | apply bA | apply bN | apply bD) | exact HB.out)))); replace HB := am (below_step (by repeat (first | (with_reducible first | exact HB.out | apply bA | apply bN | apply bD) | exact HB.out)) hb); (try clear hb); (try clear hb2); (try clear hk); (try clear hi); (try clear ho0); obtain ⟨Ao49, co49, eo49⟩ := Kd.R_slice HO710.out; subst eo49) | (go_at_call 49; (with_reducible refine (laws_pairing.calls k _ _ t690 _ _ t708 t711 _ ?side1 ?side2 ?side3 ?side4 A45.out).mono ?_); (case side1 => repeat (first | exact (Kd.S_reads' HO692.out).2.2 | (with_reducible first | refine cA ?_ _ | refine cN ?_ _ | refine cD ?_))); (case side2 => exact (Kd.S_reads' HO692.out).2.1); (case side3 => repeat (first | exact (Kd.R_reads' HO710.out).2.2 | (with_reducible first | refine cA ?_ _ | refine cN ?_ _ | refine cD ?_))); (case side4 => exact (Kd.R_reads' HO710.out).2.1); rintro e w50 ⟨rfl, hb⟩; replace HO692 := am (Kd.S_below (by (with_reducible repeat (first | apply sA | apply sN | apply sD)); exact HO692.out) hb); replace HO696 := am (Kd.R_below (by (with_reducible repeat (first | apply rA | apply rN | apply rD)); exact HO696.out) hb); replace HO700 := am (Kd.R_below (by (with_reducible repeat (first | apply rA | apply rN | apply rD)); exact HO700.out) hb); replace HO710 := am (Kd.R_below (by (with_reducible repeat (first | apply rA | apply rN | apply rD)); exact HO710.out) hb); replace HB := am (below_step (by repeat (first | (with_reducible first | exact HB.out | apply bA | apply bN | apply bD) | exact HB.out)) hb); (try clear hb); (try clear hb2); (try clear hk); (try clear hi)))
      go_meet
      case rel => exact ⟨_, ((false != t711)), (by first | rfl | (simp; done) | (simp [*]; done)), H', ⟨by first | omega | exact Nat.le_refl _⟩, ⟨by (with_reducible repeat (first | apply sA | apply sN | apply sD)); exact Kd.S_mono HO692.out (fun _ hk => trivial)⟩, ⟨by (with_reducible repeat (first | apply rA | apply rN | apply rD)); exact Kd.R_mono HO696.out (fun _ hk => trivial)⟩, ⟨by repeat (first | (with_reducible first | exact HB.out | apply bA | apply bN | apply bD) | exact HB.out)⟩⟩
     rw [if_pos c39] at H; have c39b0 : decide (0 < (t693.length : Int)) = true := decide_eq_true c39; have c39b1 : decide (0 < t693.length) = true := decide_eq_true (by omega); clear c39; have H' := am H; clear H; obtain ⟨Ao40, co40, eo40⟩ := Kd.R_slice HO696.out; subst eo40; go_wp2
     go_meet
     case rel => exact ⟨_, (true), (by first | rfl | (simp; done) | (simp [*]; done)), H', ⟨by first | omega | exact Nat.le_refl _⟩, ⟨by (with_reducible repeat (first | apply sA | apply sN | apply sD)); exact HO692.out⟩, ⟨by (with_reducible repeat (first | apply rA | apply rN | apply rD)); exact Kd.R_mono HO696.out (fun _ hk => trivial)⟩, ⟨by repeat (first | (with_reducible first | exact HB.out | apply bA | apply bN | apply bD) | exact HB.out)⟩⟩
    subst c17; have H1 : ((impl_IsRound.f k t690 t693).bind fun t701 => (if t701 = true then ((impl_AreTeams.f k t690).bind fun t702 => (if t702 = true then (if ((t690.length : Int) % 2) = 0 then ((impl_Standing.f k t690).bind fun t703 => ((laws_pairing.f k t690 t703).bind fun t706 => (laws_FnPairs.j0 k l0 t690 t693 (true != t706)))) else (laws_FnPairs.j0 k l0 t690 t693 false)) else (laws_FnPairs.j0 k l0 t690 t693 false))) else (laws_FnPairs.j0 k l0 t690 t693 true))) = some r := by rw [if_pos rfl] at H; exact H
    clear H; have H := H1; clear H1; replace H := Option.bind_eq_some_iff.mp H; obtain ⟨t701, A180, H⟩ := H; replace H : (if t701 = true then ((impl_AreTeams.f k t690).bind fun t702 => (if t702 = true then (if ((t690.length : Int) % 2) = 0 then ((impl_Standing.f k t690).bind fun t703 => ((laws_pairing.f k t690 t703).bind fun t706 => (laws_FnPairs.j0 k l0 t690 t693 (true != t706)))) else (laws_FnPairs.j0 k l0 t690 t693 false)) else (laws_FnPairs.j0 k l0 t690 t693 false))) else (laws_FnPairs.j0 k l0 t690 t693 true)) = some r := H; have A18 := am A180; clear A180; by_cases c19 : t701 = true
    rotate_left
    ·
     replace c19 := Bool.eq_false_iff.mpr c19; subst c19; have H1 : (laws_FnPairs.j0 k l0 t690 t693 true) = some r := by rw [if_neg (show ¬ (false = true) by decide)] at H; exact H
     clear H; have H := H1; clear H1; have H' := am H; clear H; obtain ⟨Ao37, co37, eo37⟩ := Kd.R_slice HO696.out; subst eo37; go_wp2_with (first | (go_at_call 48; (with_reducible refine (impl_IsRound.calls k _ _ t690 _ _ t693 false _ ?side1 ?side2 ?side3 ?side4 A18.out).mono ?_); (case side1 => repeat (first | exact (Kd.S_reads' HO692.out).2.2 | (with_reducible first | refine cA ?_ _ | refine cN ?_ _ | refine cD ?_))); (case side2 => exact (Kd.S_reads' HO692.out).2.1); (case side3 => repeat (first | exact (Kd.R_reads' HO696.out).2.2 | (with_reducible first | refine cA ?_ _ | refine cN ?_ _ | refine cD ?_))); (case side4 => exact (Kd.R_reads' HO696.out).2.1); rintro e w38 ⟨rfl, hb⟩; replace HO692 := am (Kd.S_below (by (with_reducible repeat (first | apply sA | apply sN | apply sD)); exact HO692.out) hb); replace HO696 := am (Kd.R_below (by (with_reducible repeat (first | apply rA | apply rN | apply rD)); exact HO696.out) hb); replace HO700 := am (Kd.R_below (by (with_reducible repeat (first | apply rA | apply rN | apply rD)); exact HO700.out) hb); replace HB := am (below_step (by repeat (first | (with_reducible first | exact HB.out | apply bA | apply bN | apply bD) | exact HB.out)) hb); (try clear hb); (try clear hb2); (try clear hk); (try clear hi)))
     go_meet
     case rel => exact ⟨_, (true), (by first | rfl | (simp; done) | (simp [*]; done)), H', ⟨by first | omega | exact Nat.le_refl _⟩, ⟨by (with_reducible repeat (first | apply sA | apply sN | apply sD)); exact HO692.out⟩, ⟨by (with_reducible repeat (first | apply rA | apply rN | apply rD)); exact Kd.R_mono HO696.out (fun _ hk => trivial)⟩, ⟨by repeat (first | (with_reducible first | exact HB.out | apply bA | apply bN | apply bD) | exact HB.out)⟩⟩
    subst c19; have H1 : ((impl_AreTeams.f k t690).bind fun t702 => (if t702 = true then (if ((t690.length : Int) % 2) = 0 then ((impl_Standing.f k t690).bind fun t703 => ((laws_pairing.f k t690 t703).bind fun t706 => (laws_FnPairs.j0 k l0 t690 t693 (true != t706)))) else (laws_FnPairs.j0 k l0 t690 t693 false)) else (laws_FnPairs.j0 k l0 t690 t693 false))) = some r := by rw [if_pos rfl] at H; exact H
    clear H; have H := H1; clear H1; replace H := Option.bind_eq_some_iff.mp H; obtain ⟨t702, A200, H⟩ := H; replace H : (if t702 = true then (if ((t690.length : Int) % 2) = 0 then ((impl_Standing.f k t690).bind fun t703 => ((laws_pairing.f k t690 t703).bind fun t706 => (laws_FnPairs.j0 k l0 t690 t693 (true != t706)))) else (laws_FnPairs.j0 k l0 t690 t693 false)) else (laws_FnPairs.j0 k l0 t690 t693 false)) = some r := H; have A20 := am A200; clear A200; by_cases c21 : t702 = true
    rotate_left
    ·
     replace c21 := Bool.eq_false_iff.mpr c21; subst c21; have H1 : (laws_FnPairs.j0 k l0 t690 t693 false) = some r := by rw [if_neg (show ¬ (false = true) by decide)] at H; exact H
     clear H; have H := H1; clear H1; have H' := am H; clear H; obtain ⟨Ao34, co34, eo34⟩ := Kd.R_slice HO696.out; subst eo34; go_wp2_with (first | (go_at_call 48; (with_reducible refine (impl_IsRound.calls k _ _ t690 _ _ t693 true _ ?side1 ?side2 ?side3 ?side4 A18.out).mono ?_); (case side1 => repeat (first | exact (Kd.S_reads' HO692.out).2.2 | (with_reducible first | refine cA ?_ _ | refine cN ?_ _ | refine cD ?_))); (case side2 => exact (Kd.S_reads' HO692.out).2.1); (case side3 => repeat (first | exact (Kd.R_reads' HO696.out).2.2 | (with_reducible first | refine cA ?_ _ | refine cN ?_ _ | refine cD ?_))); (case side4 => exact (Kd.R_reads' HO696.out).2.1); rintro e w35 ⟨rfl, hb⟩; replace HO692 := am (Kd.S_below (by (with_reducible repeat (first | apply sA | apply sN | apply sD)); exact HO692.out) hb); replace HO696 := am (Kd.R_below (by (with_reducible repeat (first | apply rA | apply rN | apply rD)); exact HO696.out) hb); replace HO700 := am (Kd.R_below (by (with_reducible repeat (first | apply rA | apply rN | apply rD)); exact HO700.out) hb); replace HB := am (below_step (by repeat (first | (with_reducible first | exact HB.out | apply bA | apply bN | apply bD) | exact HB.out)) hb); (try clear hb); (try clear hb2); (try clear hk); (try clear hi)) | (go_at_call 42; (with_reducible refine (impl_AreTeams.calls k _ _ t690 false _ ?side1 ?side2 A20.out).mono ?_); (case side1 => repeat (first | exact (Kd.S_reads' HO692.out).2.2 | (with_reducible first | refine cA ?_ _ | refine cN ?_ _ | refine cD ?_))); (case side2 => exact (Kd.S_reads' HO692.out).2.1); rintro e w36 ⟨rfl, hb⟩; replace HO692 := am (Kd.S_below (by (with_reducible repeat (first | apply sA | apply sN | apply sD)); exact HO692.out) hb); replace HO696 := am (Kd.R_below (by (with_reducible repeat (first | apply rA | apply rN | apply rD)); exact HO696.out) hb); replace HO700 := am (Kd.R_below (by (with_reducible repeat (first | apply rA | apply rN | apply rD)); exact HO700.out) hb); replace HB := am (below_step (by repeat (first | (with_reducible first | exact HB.out | apply bA | apply bN | apply bD) | exact HB.out)) hb); (try clear hb); (try clear hb2); (try clear hk); (try clear hi)))
     go_meet
     case rel => exact ⟨_, (false), (by first | rfl | (simp; done) | (simp [*]; done)), H', ⟨by first | omega | exact Nat.le_refl _⟩, ⟨by (with_reducible repeat (first | apply sA | apply sN | apply sD)); exact HO692.out⟩, ⟨by (with_reducible repeat (first | apply rA | apply rN | apply rD)); exact Kd.R_mono HO696.out (fun _ hk => trivial)⟩, ⟨by repeat (first | (with_reducible first | exact HB.out | apply bA | apply bN | apply bD) | exact HB.out)⟩⟩
    subst c21; have H1 : (if ((t690.length : Int) % 2) = 0 then ((impl_Standing.f k t690).bind fun t703 => ((laws_pairing.f k t690 t703).bind fun t706 => (laws_FnPairs.j0 k l0 t690 t693 (true != t706)))) else (laws_FnPairs.j0 k l0 t690 t693 false)) = some r := by rw [if_pos rfl] at H; exact H
    clear H; have H := H1; clear H1; by_cases c22 : ((t690.length : Int) % 2) = 0
    rotate_left
    ·
     rw [if_neg c22] at H; have c22b0 : (((t690.length : Int) % 2) == 0) = false := beq_eq_false_iff_ne.mpr c22; have c22b1 : (((t690.length : Int) % 2) != 0) = true := bne_iff_ne.mpr c22; (first | rw [c22b0] | (simp only [i64_w, i32_w]; rw [c22b0]) | skip); have H' := am H; clear H; obtain ⟨Ao31, co31, eo31⟩ := Kd.R_slice HO696.out; subst eo31; go_wp2_with (first | (go_at_call 48; (with_reducible refine (impl_IsRound.calls k _ _ t690 _ _ t693 true _ ?side1 ?side2 ?side3 ?side4 A18.out).mono ?_); (case side1 => repeat (first | exact (Kd.S_reads' HO692.out).2.2 | (with_reducible first | refine cA ?_ _ | refine cN ?_ _ | refine cD ?_))); (case side2 => exact (Kd.S_reads' HO692.out).2.1); (case side3 => repeat (first | exact (Kd.R_reads' HO696.out).2.2 | (with_reducible first | refine cA ?_ _ | refine cN ?_ _ | refine cD ?_))); (case side4 => exact (Kd.R_reads' HO696.out).2.1); rintro e w32 ⟨rfl, hb⟩; replace HO692 := am (Kd.S_below (by (with_reducible repeat (first | apply sA | apply sN | apply sD)); exact HO692.out) hb); replace HO696 := am (Kd.R_below (by (with_reducible repeat (first | apply rA | apply rN | apply rD)); exact HO696.out) hb); replace HO700 := am (Kd.R_below (by (with_reducible repeat (first | apply rA | apply rN | apply rD)); exact HO700.out) hb); replace HB := am (below_step (by repeat (first | (with_reducible first | exact HB.out | apply bA | apply bN | apply bD) | exact HB.out)) hb); (try clear hb); (try clear hb2); (try clear hk); (try clear hi)) | (go_at_call 42; (with_reducible refine (impl_AreTeams.calls k _ _ t690 true _ ?side1 ?side2 A20.out).mono ?_); (case side1 => repeat (first | exact (Kd.S_reads' HO692.out).2.2 | (with_reducible first | refine cA ?_ _ | refine cN ?_ _ | refine cD ?_))); (case side2 => exact (Kd.S_reads' HO692.out).2.1); rintro e w33 ⟨rfl, hb⟩; replace HO692 := am (Kd.S_below (by (with_reducible repeat (first | apply sA | apply sN | apply sD)); exact HO692.out) hb); replace HO696 := am (Kd.R_below (by (with_reducible repeat (first | apply rA | apply rN | apply rD)); exact HO696.out) hb); replace HO700 := am (Kd.R_below (by (with_reducible repeat (first | apply rA | apply rN | apply rD)); exact HO700.out) hb); replace HB := am (below_step (by repeat (first | (with_reducible first | exact HB.out | apply bA | apply bN | apply bD) | exact HB.out)) hb); (try clear hb); (try clear hb2); (try clear hk); (try clear hi)))
     go_meet
     case rel => exact ⟨_, (false), (by first | rfl | (simp; done) | (simp [*]; done)), H', ⟨by first | omega | exact Nat.le_refl _⟩, ⟨by (with_reducible repeat (first | apply sA | apply sN | apply sD)); exact HO692.out⟩, ⟨by (with_reducible repeat (first | apply rA | apply rN | apply rD)); exact Kd.R_mono HO696.out (fun _ hk => trivial)⟩, ⟨by repeat (first | (with_reducible first | exact HB.out | apply bA | apply bN | apply bD) | exact HB.out)⟩⟩
    rw [if_pos c22] at H; have c22b0 : (((t690.length : Int) % 2) == 0) = true := beq_iff_eq.mpr c22; have c22b1 : (((t690.length : Int) % 2) != 0) = false := bne_eq_false_iff_eq.mpr c22; clear c22; (first | rw [c22b0] | (simp only [i64_w, i32_w]; rw [c22b0]) | skip); replace H := Option.bind_eq_some_iff.mp H; obtain ⟨t703, A230, H⟩ := H; replace H : ((laws_pairing.f k t690 t703).bind fun t706 => (laws_FnPairs.j0 k l0 t690 t693 (true != t706))) = some r := H; have A23 := am A230; clear A230; replace H := Option.bind_eq_some_iff.mp H; obtain ⟨t706, A240, H⟩ := H; replace H : (laws_FnPairs.j0 k l0 t690 t693 (true != t706)) = some r := H; have A24 := am A240; clear A240; have H' := am H; clear H; obtain ⟨Ao25, co25, eo25⟩ := Kd.R_slice HO696.out; subst eo25; go_wp2_with (first | (go_at_call 48; (with_reducible refine (impl_IsRound.calls k _ _ t690 _ _ t693 true _ ?side1 ?side2 ?side3 ?side4 A18.out).mono ?_); (case side1 => repeat (first | exact (Kd.S_reads' HO692.out).2.2 | (with_reducible first | refine cA ?_ _ | refine cN ?_ _ | refine cD ?_))); (case side2 => exact (Kd.S_reads' HO692.out).2.1); (case side3 => repeat (first | exact (Kd.R_reads' HO696.out).2.2 | (with_reducible first | refine cA ?_ _ | refine cN ?_ _ | refine cD ?_))); (case side4 => exact (Kd.R_reads' HO696.out).2.1); rintro e w26 ⟨rfl, hb⟩; replace HO692 := am (Kd.S_below (by (with_reducible repeat (first | apply sA | apply sN | apply sD)); exact HO692.out) hb); replace HO696 := am (Kd.R_below (by (with_reducible repeat (first | apply rA | apply rN | apply rD)); exact HO696.out) hb); replace HO700 := am (Kd.R_below (by (with_reducible repeat (first | apply rA | apply rN | apply rD)); exact HO700.out) hb); replace HB := am (below_step (by repeat (first | (with_reducible first | exact HB.out | apply bA | apply bN | apply bD) | exact HB.out)) hb); (try clear hb); (try clear hb2); (try clear hk); (try clear hi)) | (go_at_call 42; (with_reducible refine (impl_AreTeams.calls k _ _ t690 true _ ?side1 ?side2 A20.out).mono ?_); (case side1 => repeat (first | exact (Kd.S_reads' HO692.out).2.2 | (with_reducible first | refine cA ?_ _ | refine cN ?_ _ | refine cD ?_))); (case side2 => exact (Kd.S_reads' HO692.out).2.1); rintro e w27 ⟨rfl, hb⟩; replace HO692 := am (Kd.S_below (by (with_reducible repeat (first | apply sA | apply sN | apply sD)); exact HO692.out) hb); replace HO696 := am (Kd.R_below (by (with_reducible repeat (first | apply rA | apply rN | apply rD)); exact HO696.out) hb); replace HO700 := am (Kd.R_below (by (with_reducible repeat (first | apply rA | apply rN | apply rD)); exact HO700.out) hb); replace HB := am (below_step (by repeat (first | (with_reducible first | exact HB.out | apply bA | apply bN | apply bD) | exact HB.out)) hb); (try clear hb); (try clear hb2); (try clear hk); (try clear hi)) | (go_at_call 50; (with_reducible refine (impl_Standing.calls k _ _ t690 t703 _ ?side1 ?side2 A23.out).mono ?_); (case side1 => repeat (first | exact (Kd.S_reads' HO692.out).2.2 | (with_reducible first | refine cA ?_ _ | refine cN ?_ _ | refine cD ?_))); (case side2 => exact (Kd.S_reads' HO692.out).2.1); rintro e w28 ⟨v704, rfl, ho0, hb⟩; replace HO692 := am (Kd.S_elder' (by (with_reducible repeat (first | apply sA | apply sN | apply sD)); exact HO692.out) (Kd.R_base ho0) hb); replace HO696 := am (Kd.R_below (by (with_reducible repeat (first | apply rA | apply rN | apply rD)); exact HO696.out) hb); replace HO700 := am (Kd.R_below (by (with_reducible repeat (first | apply rA | apply rN | apply rD)); exact HO700.out) hb); replace HO705 := am (Kd.R_lower ho0 (below_size (by repeat (first | (with_reducible first | exact HB.out | apply bA | apply bN | apply bD) | exact HB.out)))); replace HB := am (below_step (by repeat (first | (with_reducible first | exact HB.out | apply bA | apply bN | apply bD) | exact HB.out)) hb); (try clear hb); (try clear hb2); (try clear hk); (try clear hi); (try clear ho0); obtain ⟨Ao29, co29, eo29⟩ := Kd.R_slice HO705.out; subst eo29) | (go_at_call 49; (with_reducible refine (laws_pairing.calls k _ _ t690 _ _ t703 t706 _ ?side1 ?side2 ?side3 ?side4 A24.out).mono ?_); (case side1 => repeat (first | exact (Kd.S_reads' HO692.out).2.2 | (with_reducible first | refine cA ?_ _ | refine cN ?_ _ | refine cD ?_))); (case side2 => exact (Kd.S_reads' HO692.out).2.1); (case side3 => repeat (first | exact (Kd.R_reads' HO705.out).2.2 | (with_reducible first | refine cA ?_ _ | refine cN ?_ _ | refine cD ?_))); (case side4 => exact (Kd.R_reads' HO705.out).2.1); rintro e w30 ⟨rfl, hb⟩; replace HO692 := am (Kd.S_below (by (with_reducible repeat (first | apply sA | apply sN | apply sD)); exact HO692.out) hb); replace HO696 := am (Kd.R_below (by (with_reducible repeat (first | apply rA | apply rN | apply rD)); exact HO696.out) hb); replace HO700 := am (Kd.R_below (by (with_reducible repeat (first | apply rA | apply rN | apply rD)); exact HO700.out) hb); replace HO705 := am (Kd.R_below (by (with_reducible repeat (first | apply rA | apply rN | apply rD)); exact HO705.out) hb); replace HB := am (below_step (by repeat (first | (with_reducible first | exact HB.out | apply bA | apply bN | apply bD) | exact HB.out)) hb); (try clear hb); (try clear hb2); (try clear hk); (try clear hi)))
    go_meet
    case rel => exact ⟨_, ((true != t706)), (by first | rfl | (simp; done) | (simp [*]; done)), H', ⟨by first | omega | exact Nat.le_refl _⟩, ⟨by (with_reducible repeat (first | apply sA | apply sN | apply sD)); exact Kd.S_mono HO692.out (fun _ hk => trivial)⟩, ⟨by (with_reducible repeat (first | apply rA | apply rN | apply rD)); exact Kd.R_mono HO696.out (fun _ hk => trivial)⟩, ⟨by repeat (first | (with_reducible first | exact HB.out | apply bA | apply bN | apply bD) | exact HB.out)⟩⟩
   case rest =>
    clear HC12; try clear c1
    try clear c2
    try clear p2
    try clear c3
    try clear c4
    try clear c7
    try clear c7b0
    try clear c7b1
    try clear c7b2
    try clear c9
    try clear c17
    try clear c19
    try clear c21
    try clear c22
    try clear c22b0
    try clear c22b1
    try clear c39
    try clear c39b0
    try clear c39b1
    try clear c40
    try clear c42
    try clear c43
    try clear c43b0
    try clear c43b1
    try clear c45
    try clear c46
    try clear c47
    obtain ⟨kq, x63_11, rfl, HA, HJ11, HO_3, HO_4, HB⟩ := hcut
    cases kq with
    | zero => exact absurd HA.out (by simp [laws_FnPairs.j0])
    | succ kj11 =>
     have H := HA.out; clear HA; simp only [laws_FnPairs.j0] at H
     by_cases c55 : x63_11 = true
     rotate_left
     ·
      replace c55 := Bool.eq_false_iff.mpr c55; subst c55; have H1 : (laws_FnPairs.l0 kj11 l0 t690 t693 0) = some r := by rw [if_neg (show ¬ (false = true) by decide)] at H; exact H
      clear H; have H := H1; clear H1; have H' := am H; clear H; go_wp2
      go_loopg [8] kj11 (fun kq v8 w' => ∃ (x8_2 : Int), v8 = .int .i64 x8_2 ∧ Aside0 (laws_FnPairs.l0 kq l0 t690 t693 x8_2 = some r) ∧ Aside0 (kq ≤ kj11) ∧ Aside0 (Kd.S k78 78 w' w.heap.size (fun _ => True) (.slice Ao14 t690.length co14) t690) ∧ Aside0 (Kd.R k48 48 w' w.heap.size (fun _ => True) v695 t693) ∧ Aside0 (Below w.heap.size w w'))
      case atStart => exact ⟨(0), (by first | rfl | (simp; done) | (simp [*]; done)), H', ⟨Nat.le_refl _⟩, ⟨by (with_reducible repeat (first | apply sA | apply sN | apply sD)); exact HO_3.out⟩, ⟨by (with_reducible repeat (first | apply rA | apply rN | apply rD)); exact HO_4.out⟩, ⟨by repeat (first | (with_reducible first | exact HB.out | apply bA | apply bN | apply bD) | exact HB.out)⟩⟩
      case round =>
       clear H'; try clear c1
       try clear c2
       try clear p2
       try clear c3
       try clear c4
       try clear c5
       try clear c7
       try clear c7b0
       try clear c7b1
       try clear c7b2
       try clear c9
       try clear c17
       try clear c19
       try clear c21
       try clear c22
       try clear c22b0
       try clear c22b1
       try clear c39
       try clear c39b0
       try clear c39b1
       try clear c40
       try clear c42
       try clear c43
       try clear c43b0
       try clear c43b1
       try clear c45
       try clear c46
       try clear c47
       try clear c55
       obtain ⟨x8_2, rfl, HA, HK2, HO_3, HO_4, HB⟩ := hrel
       cases gk with
       | zero => exact absurd HA.out (by simp [laws_FnPairs.l0])
       | succ k2 =>
        have H := HA.out; clear HA; simp only [laws_FnPairs.l0] at H
        by_cases c56 : x8_2 < (t693.length : Int)
        rotate_left
        ·
         rw [if_neg c56] at H; have c56b0 : decide (x8_2 < (t693.length : Int)) = false := decide_eq_false c56; clear c56; replace H := Option.bind_eq_some_iff.mp H; obtain ⟨⟨t718, t719, t720⟩, A730, H⟩ := H; replace H : ((impl_SideFor.f k2 t718 t719 t720).bind fun bt723 => ((impl_MayMeet.f k2 t718 t719 t720).bind fun t726 => ((impl_MayMeet.f k2 t718 t720 t719).bind fun t727 => (if (t726 == t727) = true then ((impl_SideFor.f k2 t718 t720 t719).bind fun bt728 => (if (bt723.1 == bt728.1 && (bt723.2 == bt728.2)) = true then ((impl_SideGap.f k2 t690 t693).bind fun t730 => (some (decide (t730 ≥ 0)))) else (some false))) else (some false))))) = some r := H; have A73 := am A730; clear A730; replace H := Option.bind_eq_some_iff.mp H; obtain ⟨⟨t723, t724⟩, A740, H⟩ := H; replace H : ((impl_MayMeet.f k2 t718 t719 t720).bind fun t726 => ((impl_MayMeet.f k2 t718 t720 t719).bind fun t727 => (if (t726 == t727) = true then ((impl_SideFor.f k2 t718 t720 t719).bind fun bt728 => (if (t723 == bt728.1 && (t724 == bt728.2)) = true then ((impl_SideGap.f k2 t690 t693).bind fun t730 => (some (decide (t730 ≥ 0)))) else (some false))) else (some false)))) = some r := H; have A74 := am A740; clear A740; replace H := Option.bind_eq_some_iff.mp H; obtain ⟨t726, A750, H⟩ := H; replace H : ((impl_MayMeet.f k2 t718 t720 t719).bind fun t727 => (if (t726 == t727) = true then ((impl_SideFor.f k2 t718 t720 t719).bind fun bt728 => (if (t723 == bt728.1 && (t724 == bt728.2)) = true then ((impl_SideGap.f k2 t690 t693).bind fun t730 => (some (decide (t730 ≥ 0)))) else (some false))) else (some false))) = some r := H; have A75 := am A750; clear A750; replace H := Option.bind_eq_some_iff.mp H; obtain ⟨t727, A760, H⟩ := H; replace H : (if (t726 == t727) = true then ((impl_SideFor.f k2 t718 t720 t719).bind fun bt728 => (if (t723 == bt728.1 && (t724 == bt728.2)) = true then ((impl_SideGap.f k2 t690 t693).bind fun t730 => (some (decide (t730 ≥ 0)))) else (some false))) else (some false)) = some r := H; have A76 := am A760; clear A760; by_cases c77 : (t726 == t727) = true
         rotate_left
         ·
          rw [if_neg c77] at H; have c77b0 : (t726 == t727) = false := by simpa using c77
          (try (have c77b1 : decide (t726 = t727) = false := by simpa using c77)); (try (have c77b2 : (t726 == t727) = false := by simpa using c77)); (try (have c77b3 : ¬ (t726 = t727) := by simpa using c77)); clear c77; obtain rfl := Option.some.inj H; obtain ⟨Ao104, co104, eo104⟩ := Kd.R_slice HO_4.out; subst eo104; try go_wp2_with (first | ((with_reducible refine gate_callee (f := 52) rfl ?_); refine goesL_ (some 95) rfl rfl Try.func52 (by kernel_rfl) rfl #[.slice A0 l0.length c0] rfl (by (try simp only [Y1, Y2, Y3]); first | done | rfl | (simp only [Y4, Y5]; rfl)) ?_; (with_reducible refine (spec_DrawMayMeet.calls k2 _ _ l0 t718 t719 t720 _ ?side1 ?side2 A73.out).mono ?_); (case side1 => repeat (first | exact (Kd.C_below HR0.out HB.out) | (with_reducible first | refine cA ?_ _ | refine cN ?_ _ | refine cD ?_))); (case side2 => exact HC0.out); rintro e w105 ⟨v721, rfl, ho0, hb⟩; refine ⟨_, rfl, ?_⟩; have n0_ := am (Kd.S_elder' (by (with_reducible repeat (first | apply sA | apply sN | apply sD)); exact HO_3.out) (Kd.S_base ho0) hb); have n1_ := am (Kd.R_below (by (with_reducible repeat (first | apply rA | apply rN | apply rD)); exact HO_4.out) hb); have n2_ := am (Kd.S_lower (Kd.S_new' ho0 (Kd.S_lt (by (with_reducible repeat (first | apply sA | apply sN | apply sD)); exact HO_3.out))) (below_size (by repeat (first | (with_reducible first | exact HB.out | apply bA | apply bN | apply bD) | exact HB.out)))); have n3_ := am (below_step (by repeat (first | (with_reducible first | exact HB.out | apply bA | apply bN | apply bD) | exact HB.out)) hb); clear HO_3 HO_4 HB; have HO_3 := n0_; have HO_4 := n1_; have HO722 := n2_; have HB := n3_; clear n0_ n1_ n2_ n3_; (try clear hb); (try clear hb2); (try clear hk); (try clear hi); (try clear ho0); obtain ⟨Ao106, co106, eo106⟩ := Kd.S_slice HO722.out; subst eo106) | ((with_reducible refine gate_callee (f := 53) rfl ?_); refine goesL_ (some 102) rfl rfl Try.func53 (by kernel_rfl) rfl #[.slice Ao106 t718.length co106, .int .i64 t719, .int .i64 t720] rfl (by (try simp only [Y1, Y2, Y3]); first | done | rfl | (simp only [Y4, Y5]; rfl)) ?_; (with_reducible refine (impl_SideFor.calls k2 _ _ t718 t719 t720 t723 t724 _ ?side1 ?side2 A74.out).mono ?_); (case side1 => repeat (first | exact (Kd.S_reads' HO722.out).2.2 | (with_reducible first | refine cA ?_ _ | refine cN ?_ _ | refine cD ?_))); (case side2 => exact (Kd.S_reads' HO722.out).2.1); rintro e w107 ⟨rfl, hb⟩; refine ⟨_, rfl, ?_⟩; replace HO_3 := am (Kd.S_below (by (with_reducible repeat (first | apply sA | apply sN | apply sD)); exact HO_3.out) hb); replace HO_4 := am (Kd.R_below (by (with_reducible repeat (first | apply rA | apply rN | apply rD)); exact HO_4.out) hb); replace HO722 := am (Kd.S_below (by (with_reducible repeat (first | apply sA | apply sN | apply sD)); exact HO722.out) hb); replace HB := am (below_step (by repeat (first | (with_reducible first | exact HB.out | apply bA | apply bN | apply bD) | exact HB.out)) hb); (try clear hb); (try clear hb2); (try clear hk); (try clear hi)) | ((with_reducible refine gate_dst (N := 12) rfl ?_); (try (refine gate_guard (by rfl) ?_; dsimp only)); refine box_event ?hg (N := 12) ?hd (cs := #[.int .i64 0, .int .i64 0]) (t := 48) ?hr ?_; (case hd => rfl); (case hg => rfl); (case hr => first | (go_simp; done) | (go_simp; rfl)); intro gb725 hg w108 hbox hb; have n0_ := am (Kd.S_below (by (with_reducible repeat (first | apply sA | apply sN | apply sD)); exact HO_3.out) hb); have n1_ := am (Kd.R_below (Kd.R_elderB (by (with_reducible repeat (first | apply rA | apply rN | apply rD)); exact HO_4.out) gb725 (Nat.le_of_eq hg.symm)) hb); have n2_ := am (Kd.S_below (by (with_reducible repeat (first | apply sA | apply sN | apply sD)); exact HO722.out) hb); have n3_ := am (below_step (by repeat (first | (with_reducible first | exact HB.out | apply bA | apply bN | apply bD) | exact HB.out)) hb); have n4_ := am (hbox); have n5_ := am ((by rw [hg]; exact (below_size (by repeat (first | (with_reducible first | exact HB.out | apply bA | apply bN | apply bD) | exact HB.out))) : w.heap.size ≤ gb725)); have n6_ := am ((by rw [hg]; exact (below_size (by repeat (first | (with_reducible first | exact HB.out | apply bA | apply bN | apply bD) | exact HB.out))) : w.heap.size ≤ gb725)); clear HO_3 HO_4 HO722 HB; have HO_3 := n0_; have HO_4 := n1_; have HO722 := n2_; have HB := n3_; have BK725 := n4_; have GW725 := n5_; have GE725 := n6_; clear n0_ n1_ n2_ n3_ n4_ n5_ n6_ hb hbox hg; have hcz109_0 : w108.cell? ⟨gb725, 0, none⟩ = some (.int .i64 0) := (blk_cell BK725.out 0).trans rfl; have hcz109_1 : w108.cell? ⟨gb725, 1, none⟩ = some (.int .i64 0) := (blk_cell BK725.out 1).trans rfl; have hfz109_0 := blk_frozen BK725.out 0; have hfz109_1 := blk_frozen BK725.out 1))
          have n0_ : Aside0 (Kd.S k78 78 ((w108.setCell ⟨gb725, 0, none⟩ (.int .i64 t723)).setCell ⟨gb725, 1, none⟩ (.int .i64 t724)) w.heap.size (fun k_ => some k_ ≠ (.slice Ao106 t718.length co106 : Value).ownBlock) (.slice Ao14 t690.length co14) t690) := ⟨by (with_reducible repeat (first | apply sA | apply sN | apply sD)); exact Kd.S_mono (Kd.S_far (p := ⟨gb725, 1, none⟩) (Kd.S_far (p := ⟨gb725, 0, none⟩) (Kd.S_types HO_3.out BK725.out (by decide)) (fun _ hk => hk.2) (.int .i64 t723)) (fun _ hk => hk.2) (.int .i64 t724)) (fun _ hk => hk.1.2)⟩; have n1_ : Aside0 (Kd.R k48 48 ((w108.setCell ⟨gb725, 0, none⟩ (.int .i64 t723)).setCell ⟨gb725, 1, none⟩ (.int .i64 t724)) w.heap.size (fun k_ => k_ ≠ gb725) (.slice Ao104 t693.length co104) t693) := ⟨by (with_reducible repeat (first | apply rA | apply rN | apply rD)); exact Kd.R_mono (Kd.R_far (p := ⟨gb725, 1, none⟩) (Kd.R_far (p := ⟨gb725, 0, none⟩) (Kd.R_mono HO_4.out (fun k_ hk => (⟨hk, hk.2⟩ : _ ∧ k_ ≠ gb725))) (fun _ hk => hk.2) (.int .i64 t723)) (fun _ hk => hk.2) (.int .i64 t724)) (fun _ hk => hk.1.2)⟩; have n2_ : Aside0 (Kd.S k78 78 ((w108.setCell ⟨gb725, 0, none⟩ (.int .i64 t723)).setCell ⟨gb725, 1, none⟩ (.int .i64 t724)) w.heap.size (fun k_ => some k_ ≠ (.slice Ao14 t690.length co14 : Value).ownBlock) (.slice Ao106 t718.length co106) t718) := ⟨by (with_reducible repeat (first | apply sA | apply sN | apply sD)); exact Kd.S_mono (Kd.S_far (p := ⟨gb725, 1, none⟩) (Kd.S_far (p := ⟨gb725, 0, none⟩) (Kd.S_types HO722.out BK725.out (by decide)) (fun _ hk => hk.2) (.int .i64 t723)) (fun _ hk => hk.2) (.int .i64 t724)) (fun _ hk => hk.1.2)⟩; have n3_ : Aside0 (((w108.setCell ⟨gb725, 0, none⟩ (.int .i64 t723)).setCell ⟨gb725, 1, none⟩ (.int .i64 t724)).heap[gb725]? = some (.cells #[.int .i64 t723, .int .i64 t724] 48 (0, 0))) := ⟨by (with_reducible repeat (first | refine kN ?_ _ | refine kD ?_ | refine kA ?_ _)); refine blk_put (cs := #[.int .i64 t723, .int .i64 0]) ?_ 1 _ rfl; (with_reducible repeat (first | refine kN ?_ _ | refine kD ?_ | refine kA ?_ _)); refine blk_put (cs := #[.int .i64 0, .int .i64 0]) ?_ 0 _ rfl; (with_reducible repeat (first | refine kN ?_ _ | refine kD ?_ | refine kA ?_ _)); exact BK725.out⟩; have n4_ : Aside0 (Below w.heap.size w ((w108.setCell ⟨gb725, 0, none⟩ (.int .i64 t723)).setCell ⟨gb725, 1, none⟩ (.int .i64 t724))) := ⟨by repeat (first | (with_reducible first | exact HB.out | apply bA | apply bN | apply bD | refine below_set ?_ GE725.out) | exact HB.out)⟩; (try clear HO_3); (try clear HO_4); (try clear HO722); (try clear BK725); (try clear HB); generalize ((w108.setCell ⟨gb725, 0, none⟩ (.int .i64 t723)).setCell ⟨gb725, 1, none⟩ (.int .i64 t724)) = w110 at n0_ n1_ n2_ n3_ n4_ ⊢; have HO_3 := n0_; have HO_4 := n1_; have HO722 := n2_; have BK725 := n3_; have HB := n4_; clear n0_ n1_ n2_ n3_ n4_; replace HO_3 := am (Kd.S_drew HO_3.out); replace HO_4 := am (Kd.R_drew HO_4.out); replace HO722 := am (Kd.S_drew HO722.out); replace BK725 := am (blk_drew BK725.out); replace HB := am (below_drew1 HB.out); refine start_ (n := 24) (S := fun w' => True) (ds := []) (bv 24 0) (by kernel_rfl) rfl rfl trivial (fun hHeld => ?_); refine with_tabW laws_FnPairs.tab17 laws_FnPairs.bits17 (fun HT_ HW_ => ?_); generalize w110.drew = w111 at HO_3 HO_4 HO722 BK725 HB hHeld ⊢; refine pv_ 24 0 103 1 rfl rfl HT_ ?_; refine pv_ 24 1 104 3 rfl rfl HT_ ?_; refine pv_ 24 2 105 7 rfl rfl HT_ ?_; refine pv_ 24 4 107 23 rfl rfl HT_ ?_; refine pv_ 24 5 108 55 rfl rfl HT_ ?_; refine pv_ 24 6 109 119 rfl rfl HT_ ?_; refine one_ (i := 3) (N := some 106) (bv 24 127) rfl rfl (one_of HT_.out (by kernel_rfl)) (by decide) (fun K hK => ?_); refine goes_ Try.func54 (by kernel_rfl) rfl #[.slice Ao106 t718.length co106, .int .i64 t719, .int .i64 t720] (by rfl) rfl rfl (by (try simp only [Y1, Y2, Y3]); first | done | rfl | (simp only [Y4, Y5]; rfl)) ?_; with_reducible refine (impl_MayMeet.calls k2 _ _ t718 t719 t720 t726 _ ?side1 ?side2 A75.out).mono ?_
          (case side1 => repeat (first | exact (Kd.S_reads' HO722.out).2.2 | (with_reducible first | refine cA ?_ _ | refine cN ?_ _ | refine cD ?_))); (case side2 => exact (Kd.S_reads' HO722.out).2.1); rintro e w112 ⟨rfl, hb⟩; refine ⟨_, rfl, ?_⟩; replace HO_3 := am (Kd.S_below (by (with_reducible repeat (first | apply sA | apply sN | apply sD)); exact HO_3.out) hb); replace HO_4 := am (Kd.R_below (by (with_reducible repeat (first | apply rA | apply rN | apply rD)); exact HO_4.out) hb); replace HO722 := am (Kd.S_below (by (with_reducible repeat (first | apply sA | apply sN | apply sD)); exact HO722.out) hb); replace BK725 := am (blk_below (g := gb725) (o := .cells #[.int .i64 t723, .int .i64 t724] 48 (0, 0)) (by (with_reducible repeat (first | refine kN ?_ _ | refine kD ?_ | refine kA ?_ _)); exact BK725.out) hb); replace HB := am (below_step (by repeat (first | (with_reducible first | exact HB.out | apply bA | apply bN | apply bD | refine below_set ?_ GE725.out) | exact HB.out)) hb); (try clear hb); (try clear hb2); (try clear hk); (try clear hi); refine hK.out _ _ trivial (fun hHeld => ?_); clear hK K; refine nm_ 106 ?_; refine one_ (i := 7) (N := some 110) (bv 24 255) rfl rfl (one_of HT_.out (by kernel_rfl)) (by decide) (fun K hK => ?_); refine goes_ Try.func54 (by kernel_rfl) rfl #[.slice Ao106 t718.length co106, .int .i64 t720, .int .i64 t719] (by rfl) rfl rfl (by (try simp only [Y1, Y2, Y3]); first | done | rfl | (simp only [Y4, Y5]; rfl)) ?_; with_reducible refine (impl_MayMeet.calls k2 _ _ t718 t720 t719 t727 _ ?side1 ?side2 A76.out).mono ?_
          (case side1 => repeat (first | exact (Kd.S_reads' HO722.out).2.2 | (with_reducible first | refine cA ?_ _ | refine cN ?_ _ | refine cD ?_))); (case side2 => exact (Kd.S_reads' HO722.out).2.1); rintro e w113 ⟨rfl, hb⟩; refine ⟨_, rfl, ?_⟩; replace HO_3 := am (Kd.S_below (by (with_reducible repeat (first | apply sA | apply sN | apply sD)); exact HO_3.out) hb); replace HO_4 := am (Kd.R_below (by (with_reducible repeat (first | apply rA | apply rN | apply rD)); exact HO_4.out) hb); replace HO722 := am (Kd.S_below (by (with_reducible repeat (first | apply sA | apply sN | apply sD)); exact HO722.out) hb); replace BK725 := am (blk_below (g := gb725) (o := .cells #[.int .i64 t723, .int .i64 t724] 48 (0, 0)) (by (with_reducible repeat (first | refine kN ?_ _ | refine kD ?_ | refine kA ?_ _)); exact BK725.out) hb); replace HB := am (below_step (by repeat (first | (with_reducible first | exact HB.out | apply bA | apply bN | apply bD | refine below_set ?_ GE725.out) | exact HB.out)) hb); (try clear hb); (try clear hb2); (try clear hk); (try clear hi); refine hK.out _ _ trivial (fun hHeld => ?_); clear hK K; refine nm_ 110 ?_; refine pv_ 24 8 111 511 rfl rfl HT_ ?_; refine pv_ 24 9 112 1023 rfl rfl HT_ ?_; refine pu_ 24 10 113 2047 rfl rfl HT_ ?_; refine pu_ 24 11 114 4095 rfl rfl HT_ ?_; refine pu_ 24 12 115 8191 rfl rfl HT_ ?_; refine pu_ 24 13 116 16383 rfl rfl HT_ ?_; refine pu_ 24 14 117 32767 rfl rfl HT_ ?_; refine pu_ 24 15 118 65535 rfl rfl HT_ ?_; refine pv_ 24 16 119 131071 rfl rfl HT_ ?_; refine pv_ 24 17 120 262143 rfl rfl HT_ ?_; refine pu_ 24 18 121 524287 rfl rfl HT_ ?_; refine pu_ 24 19 122 1048575 rfl rfl HT_ ?_; refine pu_ 24 20 123 2097151 rfl rfl HT_ ?_; refine pu_ 24 21 124 4194303 rfl rfl HT_ ?_; refine pv_ 24 22 125 8388607 rfl rfl HT_ ?_; refine pv_ 24 23 2 16777215 rfl rfl HT_ ?_; refine done_ (done_of HT_.out (by kernel_rfl)) ?_; try go_wp2
          all_goals (go_ret; exact ⟨by first | rfl | (simp [*, errW_none, errW_some] <;> rfl), by repeat (first | (with_reducible first | exact HB.out | apply bA | apply bN | apply bD | refine below_set ?_ GE725.out) | exact HB.out)⟩)

         rw [if_pos c77] at H; have c77b0 : (t726 == t727) = true := c77; (try (have c77b1 : decide (t726 = t727) = true := by simpa using c77)); (try (have c77b2 : (t726 == t727) = true := by simpa using c77)); clear c77; replace H := Option.bind_eq_some_iff.mp H; obtain ⟨⟨t728, t729⟩, A780, H⟩ := H; replace H : (if (t723 == t728 && (t724 == t729)) = true then ((impl_SideGap.f k2 t690 t693).bind fun t730 => (some (decide (t730 ≥ 0)))) else (some false)) = some r := H; have A78 := am A780; clear A780; by_cases c79 : (t723 == t728 && (t724 == t729)) = true
         rotate_left
         ·
          rw [if_neg c79] at H; have c79b0 : (t723 == t728 && (t724 == t729)) = false := by simpa using c79
          (try (have c79b1 : decide (t723 = t728 && (t724 == t729)) = false := by simpa using c79)); (try (have c79b2 : (t723 == t728 && (t724 == t729)) = false := by simpa using c79)); (try (have c79b3 : ¬ (t723 = t728 && (t724 == t729)) := by simpa using c79)); clear c79; obtain rfl := Option.some.inj H; obtain ⟨Ao93, co93, eo93⟩ := Kd.R_slice HO_4.out; subst eo93; try go_wp2_with (first | ((with_reducible refine gate_callee (f := 52) rfl ?_); refine goesL_ (some 95) rfl rfl Try.func52 (by kernel_rfl) rfl #[.slice A0 l0.length c0] rfl (by (try simp only [Y1, Y2, Y3]); first | done | rfl | (simp only [Y4, Y5]; rfl)) ?_; (with_reducible refine (spec_DrawMayMeet.calls k2 _ _ l0 t718 t719 t720 _ ?side1 ?side2 A73.out).mono ?_); (case side1 => repeat (first | exact (Kd.C_below HR0.out HB.out) | (with_reducible first | refine cA ?_ _ | refine cN ?_ _ | refine cD ?_))); (case side2 => exact HC0.out); rintro e w94 ⟨v721, rfl, ho0, hb⟩; refine ⟨_, rfl, ?_⟩; have n0_ := am (Kd.S_elder' (by (with_reducible repeat (first | apply sA | apply sN | apply sD)); exact HO_3.out) (Kd.S_base ho0) hb); have n1_ := am (Kd.R_below (by (with_reducible repeat (first | apply rA | apply rN | apply rD)); exact HO_4.out) hb); have n2_ := am (Kd.S_lower (Kd.S_new' ho0 (Kd.S_lt (by (with_reducible repeat (first | apply sA | apply sN | apply sD)); exact HO_3.out))) (below_size (by repeat (first | (with_reducible first | exact HB.out | apply bA | apply bN | apply bD) | exact HB.out)))); have n3_ := am (below_step (by repeat (first | (with_reducible first | exact HB.out | apply bA | apply bN | apply bD) | exact HB.out)) hb); clear HO_3 HO_4 HB; have HO_3 := n0_; have HO_4 := n1_; have HO722 := n2_; have HB := n3_; clear n0_ n1_ n2_ n3_; (try clear hb); (try clear hb2); (try clear hk); (try clear hi); (try clear ho0); obtain ⟨Ao95, co95, eo95⟩ := Kd.S_slice HO722.out; subst eo95) | ((with_reducible refine gate_callee (f := 53) rfl ?_); refine goesL_ (some 102) rfl rfl Try.func53 (by kernel_rfl) rfl #[.slice Ao95 t718.length co95, .int .i64 t719, .int .i64 t720] rfl (by (try simp only [Y1, Y2, Y3]); first | done | rfl | (simp only [Y4, Y5]; rfl)) ?_; (with_reducible refine (impl_SideFor.calls k2 _ _ t718 t719 t720 t723 t724 _ ?side1 ?side2 A74.out).mono ?_); (case side1 => repeat (first | exact (Kd.S_reads' HO722.out).2.2 | (with_reducible first | refine cA ?_ _ | refine cN ?_ _ | refine cD ?_))); (case side2 => exact (Kd.S_reads' HO722.out).2.1); rintro e w96 ⟨rfl, hb⟩; refine ⟨_, rfl, ?_⟩; replace HO_3 := am (Kd.S_below (by (with_reducible repeat (first | apply sA | apply sN | apply sD)); exact HO_3.out) hb); replace HO_4 := am (Kd.R_below (by (with_reducible repeat (first | apply rA | apply rN | apply rD)); exact HO_4.out) hb); replace HO722 := am (Kd.S_below (by (with_reducible repeat (first | apply sA | apply sN | apply sD)); exact HO722.out) hb); replace HB := am (below_step (by repeat (first | (with_reducible first | exact HB.out | apply bA | apply bN | apply bD) | exact HB.out)) hb); (try clear hb); (try clear hb2); (try clear hk); (try clear hi)) | ((with_reducible refine gate_dst (N := 12) rfl ?_); (try (refine gate_guard (by rfl) ?_; dsimp only)); refine box_event ?hg (N := 12) ?hd (cs := #[.int .i64 0, .int .i64 0]) (t := 48) ?hr ?_; (case hd => rfl); (case hg => rfl); (case hr => first | (go_simp; done) | (go_simp; rfl)); intro gb725 hg w97 hbox hb; have n0_ := am (Kd.S_below (by (with_reducible repeat (first | apply sA | apply sN | apply sD)); exact HO_3.out) hb); have n1_ := am (Kd.R_below (Kd.R_elderB (by (with_reducible repeat (first | apply rA | apply rN | apply rD)); exact HO_4.out) gb725 (Nat.le_of_eq hg.symm)) hb); have n2_ := am (Kd.S_below (by (with_reducible repeat (first | apply sA | apply sN | apply sD)); exact HO722.out) hb); have n3_ := am (below_step (by repeat (first | (with_reducible first | exact HB.out | apply bA | apply bN | apply bD) | exact HB.out)) hb); have n4_ := am (hbox); have n5_ := am ((by rw [hg]; exact (below_size (by repeat (first | (with_reducible first | exact HB.out | apply bA | apply bN | apply bD) | exact HB.out))) : w.heap.size ≤ gb725)); have n6_ := am ((by rw [hg]; exact (below_size (by repeat (first | (with_reducible first | exact HB.out | apply bA | apply bN | apply bD) | exact HB.out))) : w.heap.size ≤ gb725)); clear HO_3 HO_4 HO722 HB; have HO_3 := n0_; have HO_4 := n1_; have HO722 := n2_; have HB := n3_; have BK725 := n4_; have GW725 := n5_; have GE725 := n6_; clear n0_ n1_ n2_ n3_ n4_ n5_ n6_ hb hbox hg; have hcz98_0 : w97.cell? ⟨gb725, 0, none⟩ = some (.int .i64 0) := (blk_cell BK725.out 0).trans rfl; have hcz98_1 : w97.cell? ⟨gb725, 1, none⟩ = some (.int .i64 0) := (blk_cell BK725.out 1).trans rfl; have hfz98_0 := blk_frozen BK725.out 0; have hfz98_1 := blk_frozen BK725.out 1))
          have n0_ : Aside0 (Kd.S k78 78 ((w97.setCell ⟨gb725, 0, none⟩ (.int .i64 t723)).setCell ⟨gb725, 1, none⟩ (.int .i64 t724)) w.heap.size (fun k_ => some k_ ≠ (.slice Ao95 t718.length co95 : Value).ownBlock) (.slice Ao14 t690.length co14) t690) := ⟨by (with_reducible repeat (first | apply sA | apply sN | apply sD)); exact Kd.S_mono (Kd.S_far (p := ⟨gb725, 1, none⟩) (Kd.S_far (p := ⟨gb725, 0, none⟩) (Kd.S_types HO_3.out BK725.out (by decide)) (fun _ hk => hk.2) (.int .i64 t723)) (fun _ hk => hk.2) (.int .i64 t724)) (fun _ hk => hk.1.2)⟩; have n1_ : Aside0 (Kd.R k48 48 ((w97.setCell ⟨gb725, 0, none⟩ (.int .i64 t723)).setCell ⟨gb725, 1, none⟩ (.int .i64 t724)) w.heap.size (fun k_ => k_ ≠ gb725) (.slice Ao93 t693.length co93) t693) := ⟨by (with_reducible repeat (first | apply rA | apply rN | apply rD)); exact Kd.R_mono (Kd.R_far (p := ⟨gb725, 1, none⟩) (Kd.R_far (p := ⟨gb725, 0, none⟩) (Kd.R_mono HO_4.out (fun k_ hk => (⟨hk, hk.2⟩ : _ ∧ k_ ≠ gb725))) (fun _ hk => hk.2) (.int .i64 t723)) (fun _ hk => hk.2) (.int .i64 t724)) (fun _ hk => hk.1.2)⟩; have n2_ : Aside0 (Kd.S k78 78 ((w97.setCell ⟨gb725, 0, none⟩ (.int .i64 t723)).setCell ⟨gb725, 1, none⟩ (.int .i64 t724)) w.heap.size (fun k_ => some k_ ≠ (.slice Ao14 t690.length co14 : Value).ownBlock) (.slice Ao95 t718.length co95) t718) := ⟨by (with_reducible repeat (first | apply sA | apply sN | apply sD)); exact Kd.S_mono (Kd.S_far (p := ⟨gb725, 1, none⟩) (Kd.S_far (p := ⟨gb725, 0, none⟩) (Kd.S_types HO722.out BK725.out (by decide)) (fun _ hk => hk.2) (.int .i64 t723)) (fun _ hk => hk.2) (.int .i64 t724)) (fun _ hk => hk.1.2)⟩; have n3_ : Aside0 (((w97.setCell ⟨gb725, 0, none⟩ (.int .i64 t723)).setCell ⟨gb725, 1, none⟩ (.int .i64 t724)).heap[gb725]? = some (.cells #[.int .i64 t723, .int .i64 t724] 48 (0, 0))) := ⟨by (with_reducible repeat (first | refine kN ?_ _ | refine kD ?_ | refine kA ?_ _)); refine blk_put (cs := #[.int .i64 t723, .int .i64 0]) ?_ 1 _ rfl; (with_reducible repeat (first | refine kN ?_ _ | refine kD ?_ | refine kA ?_ _)); refine blk_put (cs := #[.int .i64 0, .int .i64 0]) ?_ 0 _ rfl; (with_reducible repeat (first | refine kN ?_ _ | refine kD ?_ | refine kA ?_ _)); exact BK725.out⟩; have n4_ : Aside0 (Below w.heap.size w ((w97.setCell ⟨gb725, 0, none⟩ (.int .i64 t723)).setCell ⟨gb725, 1, none⟩ (.int .i64 t724))) := ⟨by repeat (first | (with_reducible first | exact HB.out | apply bA | apply bN | apply bD | refine below_set ?_ GE725.out) | exact HB.out)⟩; (try clear HO_3); (try clear HO_4); (try clear HO722); (try clear BK725); (try clear HB); generalize ((w97.setCell ⟨gb725, 0, none⟩ (.int .i64 t723)).setCell ⟨gb725, 1, none⟩ (.int .i64 t724)) = w99 at n0_ n1_ n2_ n3_ n4_ ⊢; have HO_3 := n0_; have HO_4 := n1_; have HO722 := n2_; have BK725 := n3_; have HB := n4_; clear n0_ n1_ n2_ n3_ n4_; replace HO_3 := am (Kd.S_drew HO_3.out); replace HO_4 := am (Kd.R_drew HO_4.out); replace HO722 := am (Kd.S_drew HO722.out); replace BK725 := am (blk_drew BK725.out); replace HB := am (below_drew1 HB.out); refine start_ (n := 24) (S := fun w' => w'.cell? ⟨gb725, 0, none⟩ = some (.int .i64 t723) ∧ w'.cell? ⟨gb725, 1, none⟩ = some (.int .i64 t724)) (ds := []) (bv 24 0) (by kernel_rfl) rfl rfl ⟨(blk_cell BK725.out 0).trans rfl, (blk_cell BK725.out 1).trans rfl⟩ (fun hHeld => ?_); refine with_tabW laws_FnPairs.tab17 laws_FnPairs.bits17 (fun HT_ HW_ => ?_); generalize w99.drew = w100 at HO_3 HO_4 HO722 BK725 HB hHeld ⊢; refine pv_ 24 0 103 1 rfl rfl HT_ ?_; refine pv_ 24 1 104 3 rfl rfl HT_ ?_; refine pv_ 24 2 105 7 rfl rfl HT_ ?_; refine pv_ 24 4 107 23 rfl rfl HT_ ?_; refine pv_ 24 5 108 55 rfl rfl HT_ ?_; refine pv_ 24 6 109 119 rfl rfl HT_ ?_; refine one_ (i := 3) (N := some 106) (bv 24 127) rfl rfl (one_of HT_.out (by kernel_rfl)) (by decide) (fun K hK => ?_); refine goes_ Try.func54 (by kernel_rfl) rfl #[.slice Ao95 t718.length co95, .int .i64 t719, .int .i64 t720] (by rfl) rfl rfl (by (try simp only [Y1, Y2, Y3]); first | done | rfl | (simp only [Y4, Y5]; rfl)) ?_; with_reducible refine (impl_MayMeet.calls k2 _ _ t718 t719 t720 t726 _ ?side1 ?side2 A75.out).mono ?_
          (case side1 => repeat (first | exact (Kd.S_reads' HO722.out).2.2 | (with_reducible first | refine cA ?_ _ | refine cN ?_ _ | refine cD ?_))); (case side2 => exact (Kd.S_reads' HO722.out).2.1); rintro e w101 ⟨rfl, hb⟩; refine ⟨_, rfl, ?_⟩; replace HO_3 := am (Kd.S_below (by (with_reducible repeat (first | apply sA | apply sN | apply sD)); exact HO_3.out) hb); replace HO_4 := am (Kd.R_below (by (with_reducible repeat (first | apply rA | apply rN | apply rD)); exact HO_4.out) hb); replace HO722 := am (Kd.S_below (by (with_reducible repeat (first | apply sA | apply sN | apply sD)); exact HO722.out) hb); replace BK725 := am (blk_below (g := gb725) (o := .cells #[.int .i64 t723, .int .i64 t724] 48 (0, 0)) (by (with_reducible repeat (first | refine kN ?_ _ | refine kD ?_ | refine kA ?_ _)); exact BK725.out) hb); replace HB := am (below_step (by repeat (first | (with_reducible first | exact HB.out | apply bA | apply bN | apply bD | refine below_set ?_ GE725.out) | exact HB.out)) hb); (try clear hb); (try clear hb2); (try clear hk); (try clear hi); refine hK.out _ _ ⟨(blk_cell BK725.out 0).trans rfl, (blk_cell BK725.out 1).trans rfl⟩ (fun hHeld => ?_); clear hK K; refine nm_ 106 ?_; refine one_ (i := 7) (N := some 110) (bv 24 255) rfl rfl (one_of HT_.out (by kernel_rfl)) (by decide) (fun K hK => ?_); refine goes_ Try.func54 (by kernel_rfl) rfl #[.slice Ao95 t718.length co95, .int .i64 t720, .int .i64 t719] (by rfl) rfl rfl (by (try simp only [Y1, Y2, Y3]); first | done | rfl | (simp only [Y4, Y5]; rfl)) ?_; with_reducible refine (impl_MayMeet.calls k2 _ _ t718 t720 t719 t727 _ ?side1 ?side2 A76.out).mono ?_
          (case side1 => repeat (first | exact (Kd.S_reads' HO722.out).2.2 | (with_reducible first | refine cA ?_ _ | refine cN ?_ _ | refine cD ?_))); (case side2 => exact (Kd.S_reads' HO722.out).2.1); rintro e w102 ⟨rfl, hb⟩; refine ⟨_, rfl, ?_⟩; replace HO_3 := am (Kd.S_below (by (with_reducible repeat (first | apply sA | apply sN | apply sD)); exact HO_3.out) hb); replace HO_4 := am (Kd.R_below (by (with_reducible repeat (first | apply rA | apply rN | apply rD)); exact HO_4.out) hb); replace HO722 := am (Kd.S_below (by (with_reducible repeat (first | apply sA | apply sN | apply sD)); exact HO722.out) hb); replace BK725 := am (blk_below (g := gb725) (o := .cells #[.int .i64 t723, .int .i64 t724] 48 (0, 0)) (by (with_reducible repeat (first | refine kN ?_ _ | refine kD ?_ | refine kA ?_ _)); exact BK725.out) hb); replace HB := am (below_step (by repeat (first | (with_reducible first | exact HB.out | apply bA | apply bN | apply bD | refine below_set ?_ GE725.out) | exact HB.out)) hb); (try clear hb); (try clear hb2); (try clear hk); (try clear hi); refine hK.out _ _ ⟨(blk_cell BK725.out 0).trans rfl, (blk_cell BK725.out 1).trans rfl⟩ (fun hHeld => ?_); clear hK K; refine nm_ 110 ?_; refine pv_ 24 8 111 511 rfl rfl HT_ ?_; refine pv_ 24 9 112 1023 rfl rfl HT_ ?_; refine pv_ 24 11 114 3071 rfl rfl HT_ ?_; refine pv_ 24 12 115 7167 rfl rfl HT_ ?_; refine pv_ 24 13 116 15359 rfl rfl HT_ ?_; refine tv_ 24 10 113 16383 rfl rfl HT_ HW_ hHeld (by rintro w' ⟨s0, s1⟩; go_simp; with_reducible rfl) ?_; refine one_ (i := 14) (N := some 117) (bv 24 32767) rfl rfl (one_of HT_.out (by kernel_rfl)) (by decide) (fun K hK => ?_); refine goes_ Try.func53 (by kernel_rfl) rfl #[.slice Ao95 t718.length co95, .int .i64 t720, .int .i64 t719] (by rfl) rfl rfl (by (try simp only [Y1, Y2, Y3]); first | done | rfl | (simp only [Y4, Y5]; rfl)) ?_; with_reducible refine (impl_SideFor.calls k2 _ _ t718 t720 t719 t728 t729 _ ?side1 ?side2 A78.out).mono ?_
          (case side1 => repeat (first | exact (Kd.S_reads' HO722.out).2.2 | (with_reducible first | refine cA ?_ _ | refine cN ?_ _ | refine cD ?_))); (case side2 => exact (Kd.S_reads' HO722.out).2.1); rintro e w103 ⟨rfl, hb⟩; refine ⟨_, rfl, ?_⟩; replace HO_3 := am (Kd.S_below (by (with_reducible repeat (first | apply sA | apply sN | apply sD)); exact HO_3.out) hb); replace HO_4 := am (Kd.R_below (by (with_reducible repeat (first | apply rA | apply rN | apply rD)); exact HO_4.out) hb); replace HO722 := am (Kd.S_below (by (with_reducible repeat (first | apply sA | apply sN | apply sD)); exact HO722.out) hb); replace BK725 := am (blk_below (g := gb725) (o := .cells #[.int .i64 t723, .int .i64 t724] 48 (0, 0)) (by (with_reducible repeat (first | refine kN ?_ _ | refine kD ?_ | refine kA ?_ _)); exact BK725.out) hb); replace HB := am (below_step (by repeat (first | (with_reducible first | exact HB.out | apply bA | apply bN | apply bD | refine below_set ?_ GE725.out) | exact HB.out)) hb); (try clear hb); (try clear hb2); (try clear hk); (try clear hi); refine hK.out _ _ ⟨(blk_cell BK725.out 0).trans rfl, (blk_cell BK725.out 1).trans rfl⟩ (fun hHeld => ?_); clear hK K; refine nm_ 117 ?_; refine pv_ 24 15 118 65535 rfl rfl HT_ ?_; refine pv_ 24 16 119 131071 rfl rfl HT_ ?_; refine pv_ 24 17 120 262143 rfl rfl HT_ ?_; refine pu_ 24 18 121 524287 rfl rfl HT_ ?_; refine pu_ 24 19 122 1048575 rfl rfl HT_ ?_; refine pu_ 24 20 123 2097151 rfl rfl HT_ ?_; refine pu_ 24 21 124 4194303 rfl rfl HT_ ?_; refine pv_ 24 22 125 8388607 rfl rfl HT_ ?_; refine pv_ 24 23 2 16777215 rfl rfl HT_ ?_; refine done_ (done_of HT_.out (by kernel_rfl)) ?_; try go_wp2
          all_goals (go_ret; exact ⟨by first | rfl | (simp [*, errW_none, errW_some] <;> rfl), by repeat (first | (with_reducible first | exact HB.out | apply bA | apply bN | apply bD | refine below_set ?_ GE725.out) | exact HB.out)⟩)
         rw [if_pos c79] at H; have c79b0 : (t723 == t728 && (t724 == t729)) = true := c79; (try (have c79b1 : decide (t723 = t728 && (t724 == t729)) = true := by simpa using c79)); (try (have c79b2 : (t723 == t728 && (t724 == t729)) = true := by simpa using c79)); clear c79; replace H := Option.bind_eq_some_iff.mp H; obtain ⟨t730, A800, H⟩ := H; replace H : (some (decide (t730 ≥ 0))) = some r := H; have A80 := am A800; clear A800; obtain rfl := Option.some.inj H; obtain ⟨Ao81, co81, eo81⟩ := Kd.R_slice HO_4.out; subst eo81; try go_wp2_with (first | ((with_reducible refine gate_callee (f := 52) rfl ?_); refine goesL_ (some 95) rfl rfl Try.func52 (by kernel_rfl) rfl #[.slice A0 l0.length c0] rfl (by (try simp only [Y1, Y2, Y3]); first | done | rfl | (simp only [Y4, Y5]; rfl)) ?_; (with_reducible refine (spec_DrawMayMeet.calls k2 _ _ l0 t718 t719 t720 _ ?side1 ?side2 A73.out).mono ?_); (case side1 => repeat (first | exact (Kd.C_below HR0.out HB.out) | (with_reducible first | refine cA ?_ _ | refine cN ?_ _ | refine cD ?_))); (case side2 => exact HC0.out); rintro e w82 ⟨v721, rfl, ho0, hb⟩; refine ⟨_, rfl, ?_⟩; have n0_ := am (Kd.S_elder' (by (with_reducible repeat (first | apply sA | apply sN | apply sD)); exact HO_3.out) (Kd.S_base ho0) hb); have n1_ := am (Kd.R_below (by (with_reducible repeat (first | apply rA | apply rN | apply rD)); exact HO_4.out) hb); have n2_ := am (Kd.S_lower (Kd.S_new' ho0 (Kd.S_lt (by (with_reducible repeat (first | apply sA | apply sN | apply sD)); exact HO_3.out))) (below_size (by repeat (first | (with_reducible first | exact HB.out | apply bA | apply bN | apply bD) | exact HB.out)))); have n3_ := am (below_step (by repeat (first | (with_reducible first | exact HB.out | apply bA | apply bN | apply bD) | exact HB.out)) hb); clear HO_3 HO_4 HB; have HO_3 := n0_; have HO_4 := n1_; have HO722 := n2_; have HB := n3_; clear n0_ n1_ n2_ n3_; (try clear hb); (try clear hb2); (try clear hk); (try clear hi); (try clear ho0); obtain ⟨Ao83, co83, eo83⟩ := Kd.S_slice HO722.out; subst eo83) | ((with_reducible refine gate_callee (f := 53) rfl ?_); refine goesL_ (some 102) rfl rfl Try.func53 (by kernel_rfl) rfl #[.slice Ao83 t718.length co83, .int .i64 t719, .int .i64 t720] rfl (by (try simp only [Y1, Y2, Y3]); first | done | rfl | (simp only [Y4, Y5]; rfl)) ?_; (with_reducible refine (impl_SideFor.calls k2 _ _ t718 t719 t720 t723 t724 _ ?side1 ?side2 A74.out).mono ?_); (case side1 => repeat (first | exact (Kd.S_reads' HO722.out).2.2 | (with_reducible first | refine cA ?_ _ | refine cN ?_ _ | refine cD ?_))); (case side2 => exact (Kd.S_reads' HO722.out).2.1); rintro e w84 ⟨rfl, hb⟩; refine ⟨_, rfl, ?_⟩; replace HO_3 := am (Kd.S_below (by (with_reducible repeat (first | apply sA | apply sN | apply sD)); exact HO_3.out) hb); replace HO_4 := am (Kd.R_below (by (with_reducible repeat (first | apply rA | apply rN | apply rD)); exact HO_4.out) hb); replace HO722 := am (Kd.S_below (by (with_reducible repeat (first | apply sA | apply sN | apply sD)); exact HO722.out) hb); replace HB := am (below_step (by repeat (first | (with_reducible first | exact HB.out | apply bA | apply bN | apply bD) | exact HB.out)) hb); (try clear hb); (try clear hb2); (try clear hk); (try clear hi)) | ((with_reducible refine gate_dst (N := 12) rfl ?_); (try (refine gate_guard (by rfl) ?_; dsimp only)); refine box_event ?hg (N := 12) ?hd (cs := #[.int .i64 0, .int .i64 0]) (t := 48) ?hr ?_; (case hd => rfl); (case hg => rfl); (case hr => first | (go_simp; done) | (go_simp; rfl)); intro gb725 hg w85 hbox hb; have n0_ := am (Kd.S_below (by (with_reducible repeat (first | apply sA | apply sN | apply sD)); exact HO_3.out) hb); have n1_ := am (Kd.R_below (Kd.R_elderB (by (with_reducible repeat (first | apply rA | apply rN | apply rD)); exact HO_4.out) gb725 (Nat.le_of_eq hg.symm)) hb); have n2_ := am (Kd.S_below (by (with_reducible repeat (first | apply sA | apply sN | apply sD)); exact HO722.out) hb); have n3_ := am (below_step (by repeat (first | (with_reducible first | exact HB.out | apply bA | apply bN | apply bD) | exact HB.out)) hb); have n4_ := am (hbox); have n5_ := am ((by rw [hg]; exact (below_size (by repeat (first | (with_reducible first | exact HB.out | apply bA | apply bN | apply bD) | exact HB.out))) : w.heap.size ≤ gb725)); have n6_ := am ((by rw [hg]; exact (below_size (by repeat (first | (with_reducible first | exact HB.out | apply bA | apply bN | apply bD) | exact HB.out))) : w.heap.size ≤ gb725)); clear HO_3 HO_4 HO722 HB; have HO_3 := n0_; have HO_4 := n1_; have HO722 := n2_; have HB := n3_; have BK725 := n4_; have GW725 := n5_; have GE725 := n6_; clear n0_ n1_ n2_ n3_ n4_ n5_ n6_ hb hbox hg; have hcz86_0 : w85.cell? ⟨gb725, 0, none⟩ = some (.int .i64 0) := (blk_cell BK725.out 0).trans rfl; have hcz86_1 : w85.cell? ⟨gb725, 1, none⟩ = some (.int .i64 0) := (blk_cell BK725.out 1).trans rfl; have hfz86_0 := blk_frozen BK725.out 0; have hfz86_1 := blk_frozen BK725.out 1))
         have n0_ : Aside0 (Kd.S k78 78 ((w85.setCell ⟨gb725, 0, none⟩ (.int .i64 t723)).setCell ⟨gb725, 1, none⟩ (.int .i64 t724)) w.heap.size (fun k_ => some k_ ≠ (.slice Ao83 t718.length co83 : Value).ownBlock) (.slice Ao14 t690.length co14) t690) := ⟨by (with_reducible repeat (first | apply sA | apply sN | apply sD)); exact Kd.S_mono (Kd.S_far (p := ⟨gb725, 1, none⟩) (Kd.S_far (p := ⟨gb725, 0, none⟩) (Kd.S_types HO_3.out BK725.out (by decide)) (fun _ hk => hk.2) (.int .i64 t723)) (fun _ hk => hk.2) (.int .i64 t724)) (fun _ hk => hk.1.2)⟩; have n1_ : Aside0 (Kd.R k48 48 ((w85.setCell ⟨gb725, 0, none⟩ (.int .i64 t723)).setCell ⟨gb725, 1, none⟩ (.int .i64 t724)) w.heap.size (fun k_ => k_ ≠ gb725) (.slice Ao81 t693.length co81) t693) := ⟨by (with_reducible repeat (first | apply rA | apply rN | apply rD)); exact Kd.R_mono (Kd.R_far (p := ⟨gb725, 1, none⟩) (Kd.R_far (p := ⟨gb725, 0, none⟩) (Kd.R_mono HO_4.out (fun k_ hk => (⟨hk, hk.2⟩ : _ ∧ k_ ≠ gb725))) (fun _ hk => hk.2) (.int .i64 t723)) (fun _ hk => hk.2) (.int .i64 t724)) (fun _ hk => hk.1.2)⟩; have n2_ : Aside0 (Kd.S k78 78 ((w85.setCell ⟨gb725, 0, none⟩ (.int .i64 t723)).setCell ⟨gb725, 1, none⟩ (.int .i64 t724)) w.heap.size (fun k_ => some k_ ≠ (.slice Ao14 t690.length co14 : Value).ownBlock) (.slice Ao83 t718.length co83) t718) := ⟨by (with_reducible repeat (first | apply sA | apply sN | apply sD)); exact Kd.S_mono (Kd.S_far (p := ⟨gb725, 1, none⟩) (Kd.S_far (p := ⟨gb725, 0, none⟩) (Kd.S_types HO722.out BK725.out (by decide)) (fun _ hk => hk.2) (.int .i64 t723)) (fun _ hk => hk.2) (.int .i64 t724)) (fun _ hk => hk.1.2)⟩; have n3_ : Aside0 (((w85.setCell ⟨gb725, 0, none⟩ (.int .i64 t723)).setCell ⟨gb725, 1, none⟩ (.int .i64 t724)).heap[gb725]? = some (.cells #[.int .i64 t723, .int .i64 t724] 48 (0, 0))) := ⟨by (with_reducible repeat (first | refine kN ?_ _ | refine kD ?_ | refine kA ?_ _)); refine blk_put (cs := #[.int .i64 t723, .int .i64 0]) ?_ 1 _ rfl; (with_reducible repeat (first | refine kN ?_ _ | refine kD ?_ | refine kA ?_ _)); refine blk_put (cs := #[.int .i64 0, .int .i64 0]) ?_ 0 _ rfl; (with_reducible repeat (first | refine kN ?_ _ | refine kD ?_ | refine kA ?_ _)); exact BK725.out⟩; have n4_ : Aside0 (Below w.heap.size w ((w85.setCell ⟨gb725, 0, none⟩ (.int .i64 t723)).setCell ⟨gb725, 1, none⟩ (.int .i64 t724))) := ⟨by repeat (first | (with_reducible first | exact HB.out | apply bA | apply bN | apply bD | refine below_set ?_ GE725.out) | exact HB.out)⟩; (try clear HO_3); (try clear HO_4); (try clear HO722); (try clear BK725); (try clear HB); generalize ((w85.setCell ⟨gb725, 0, none⟩ (.int .i64 t723)).setCell ⟨gb725, 1, none⟩ (.int .i64 t724)) = w87 at n0_ n1_ n2_ n3_ n4_ ⊢; have HO_3 := n0_; have HO_4 := n1_; have HO722 := n2_; have BK725 := n3_; have HB := n4_; clear n0_ n1_ n2_ n3_ n4_; replace HO_3 := am (Kd.S_drew HO_3.out); replace HO_4 := am (Kd.R_drew HO_4.out); replace HO722 := am (Kd.S_drew HO722.out); replace BK725 := am (blk_drew BK725.out); replace HB := am (below_drew1 HB.out); refine start_ (n := 24) (S := fun w' => w'.cell? ⟨gb725, 0, none⟩ = some (.int .i64 t723) ∧ w'.cell? ⟨gb725, 1, none⟩ = some (.int .i64 t724)) (ds := []) (bv 24 0) (by kernel_rfl) rfl rfl ⟨(blk_cell BK725.out 0).trans rfl, (blk_cell BK725.out 1).trans rfl⟩ (fun hHeld => ?_); refine with_tabW laws_FnPairs.tab17 laws_FnPairs.bits17 (fun HT_ HW_ => ?_); generalize w87.drew = w88 at HO_3 HO_4 HO722 BK725 HB hHeld ⊢; refine pv_ 24 0 103 1 rfl rfl HT_ ?_; refine pv_ 24 1 104 3 rfl rfl HT_ ?_; refine pv_ 24 2 105 7 rfl rfl HT_ ?_; refine pv_ 24 4 107 23 rfl rfl HT_ ?_; refine pv_ 24 5 108 55 rfl rfl HT_ ?_; refine pv_ 24 6 109 119 rfl rfl HT_ ?_; refine one_ (i := 3) (N := some 106) (bv 24 127) rfl rfl (one_of HT_.out (by kernel_rfl)) (by decide) (fun K hK => ?_); refine goes_ Try.func54 (by kernel_rfl) rfl #[.slice Ao83 t718.length co83, .int .i64 t719, .int .i64 t720] (by rfl) rfl rfl (by (try simp only [Y1, Y2, Y3]); first | done | rfl | (simp only [Y4, Y5]; rfl)) ?_; with_reducible refine (impl_MayMeet.calls k2 _ _ t718 t719 t720 t726 _ ?side1 ?side2 A75.out).mono ?_
         (case side1 => repeat (first | exact (Kd.S_reads' HO722.out).2.2 | (with_reducible first | refine cA ?_ _ | refine cN ?_ _ | refine cD ?_))); (case side2 => exact (Kd.S_reads' HO722.out).2.1); rintro e w89 ⟨rfl, hb⟩; refine ⟨_, rfl, ?_⟩; replace HO_3 := am (Kd.S_below (by (with_reducible repeat (first | apply sA | apply sN | apply sD)); exact HO_3.out) hb); replace HO_4 := am (Kd.R_below (by (with_reducible repeat (first | apply rA | apply rN | apply rD)); exact HO_4.out) hb); replace HO722 := am (Kd.S_below (by (with_reducible repeat (first | apply sA | apply sN | apply sD)); exact HO722.out) hb); replace BK725 := am (blk_below (g := gb725) (o := .cells #[.int .i64 t723, .int .i64 t724] 48 (0, 0)) (by (with_reducible repeat (first | refine kN ?_ _ | refine kD ?_ | refine kA ?_ _)); exact BK725.out) hb); replace HB := am (below_step (by repeat (first | (with_reducible first | exact HB.out | apply bA | apply bN | apply bD | refine below_set ?_ GE725.out) | exact HB.out)) hb); (try clear hb); (try clear hb2); (try clear hk); (try clear hi); refine hK.out _ _ ⟨(blk_cell BK725.out 0).trans rfl, (blk_cell BK725.out 1).trans rfl⟩ (fun hHeld => ?_); clear hK K; refine nm_ 106 ?_; refine one_ (i := 7) (N := some 110) (bv 24 255) rfl rfl (one_of HT_.out (by kernel_rfl)) (by decide) (fun K hK => ?_); refine goes_ Try.func54 (by kernel_rfl) rfl #[.slice Ao83 t718.length co83, .int .i64 t720, .int .i64 t719] (by rfl) rfl rfl (by (try simp only [Y1, Y2, Y3]); first | done | rfl | (simp only [Y4, Y5]; rfl)) ?_; with_reducible refine (impl_MayMeet.calls k2 _ _ t718 t720 t719 t727 _ ?side1 ?side2 A76.out).mono ?_
         (case side1 => repeat (first | exact (Kd.S_reads' HO722.out).2.2 | (with_reducible first | refine cA ?_ _ | refine cN ?_ _ | refine cD ?_))); (case side2 => exact (Kd.S_reads' HO722.out).2.1); rintro e w90 ⟨rfl, hb⟩; refine ⟨_, rfl, ?_⟩; replace HO_3 := am (Kd.S_below (by (with_reducible repeat (first | apply sA | apply sN | apply sD)); exact HO_3.out) hb); replace HO_4 := am (Kd.R_below (by (with_reducible repeat (first | apply rA | apply rN | apply rD)); exact HO_4.out) hb); replace HO722 := am (Kd.S_below (by (with_reducible repeat (first | apply sA | apply sN | apply sD)); exact HO722.out) hb); replace BK725 := am (blk_below (g := gb725) (o := .cells #[.int .i64 t723, .int .i64 t724] 48 (0, 0)) (by (with_reducible repeat (first | refine kN ?_ _ | refine kD ?_ | refine kA ?_ _)); exact BK725.out) hb); replace HB := am (below_step (by repeat (first | (with_reducible first | exact HB.out | apply bA | apply bN | apply bD | refine below_set ?_ GE725.out) | exact HB.out)) hb); (try clear hb); (try clear hb2); (try clear hk); (try clear hi); refine hK.out _ _ ⟨(blk_cell BK725.out 0).trans rfl, (blk_cell BK725.out 1).trans rfl⟩ (fun hHeld => ?_); clear hK K; refine nm_ 110 ?_; refine pv_ 24 8 111 511 rfl rfl HT_ ?_; refine pv_ 24 9 112 1023 rfl rfl HT_ ?_; refine pv_ 24 11 114 3071 rfl rfl HT_ ?_; refine pv_ 24 12 115 7167 rfl rfl HT_ ?_; refine pv_ 24 13 116 15359 rfl rfl HT_ ?_; refine tv_ 24 10 113 16383 rfl rfl HT_ HW_ hHeld (by rintro w' ⟨s0, s1⟩; go_simp; with_reducible rfl) ?_; refine one_ (i := 14) (N := some 117) (bv 24 32767) rfl rfl (one_of HT_.out (by kernel_rfl)) (by decide) (fun K hK => ?_); refine goes_ Try.func53 (by kernel_rfl) rfl #[.slice Ao83 t718.length co83, .int .i64 t720, .int .i64 t719] (by rfl) rfl rfl (by (try simp only [Y1, Y2, Y3]); first | done | rfl | (simp only [Y4, Y5]; rfl)) ?_; with_reducible refine (impl_SideFor.calls k2 _ _ t718 t720 t719 t728 t729 _ ?side1 ?side2 A78.out).mono ?_
         (case side1 => repeat (first | exact (Kd.S_reads' HO722.out).2.2 | (with_reducible first | refine cA ?_ _ | refine cN ?_ _ | refine cD ?_))); (case side2 => exact (Kd.S_reads' HO722.out).2.1); rintro e w91 ⟨rfl, hb⟩; refine ⟨_, rfl, ?_⟩; replace HO_3 := am (Kd.S_below (by (with_reducible repeat (first | apply sA | apply sN | apply sD)); exact HO_3.out) hb); replace HO_4 := am (Kd.R_below (by (with_reducible repeat (first | apply rA | apply rN | apply rD)); exact HO_4.out) hb); replace HO722 := am (Kd.S_below (by (with_reducible repeat (first | apply sA | apply sN | apply sD)); exact HO722.out) hb); replace BK725 := am (blk_below (g := gb725) (o := .cells #[.int .i64 t723, .int .i64 t724] 48 (0, 0)) (by (with_reducible repeat (first | refine kN ?_ _ | refine kD ?_ | refine kA ?_ _)); exact BK725.out) hb); replace HB := am (below_step (by repeat (first | (with_reducible first | exact HB.out | apply bA | apply bN | apply bD | refine below_set ?_ GE725.out) | exact HB.out)) hb); (try clear hb); (try clear hb2); (try clear hk); (try clear hi); refine hK.out _ _ ⟨(blk_cell BK725.out 0).trans rfl, (blk_cell BK725.out 1).trans rfl⟩ (fun hHeld => ?_); clear hK K; refine nm_ 117 ?_; refine pv_ 24 15 118 65535 rfl rfl HT_ ?_; refine pv_ 24 16 119 131071 rfl rfl HT_ ?_; refine pv_ 24 17 120 262143 rfl rfl HT_ ?_; refine pv_ 24 18 121 524287 rfl rfl HT_ ?_; refine pv_ 24 19 122 1048575 rfl rfl HT_ ?_; refine one_ (i := 20) (N := some 123) (bv 24 2097151) rfl rfl (one_of HT_.out (by kernel_rfl)) (by decide) (fun K hK => ?_); refine goes_ Try.func55 (by kernel_rfl) rfl #[.slice Ao14 t690.length co14, .slice Ao81 t693.length co81] (by rfl) rfl rfl (by (try simp only [Y1, Y2, Y3]); first | done | rfl | (simp only [Y4, Y5]; rfl)) ?_; with_reducible refine (impl_SideGap.calls k2 _ _ t690 _ _ t693 t730 _ ?side1 ?side2 ?side3 ?side4 A80.out).mono ?_
         (case side1 => repeat (first | exact (Kd.S_reads' HO_3.out).2.2 | (with_reducible first | refine cA ?_ _ | refine cN ?_ _ | refine cD ?_))); (case side2 => exact (Kd.S_reads' HO_3.out).2.1); (case side3 => repeat (first | exact (Kd.R_reads' HO_4.out).2.2 | (with_reducible first | refine cA ?_ _ | refine cN ?_ _ | refine cD ?_))); (case side4 => exact (Kd.R_reads' HO_4.out).2.1); rintro e w92 ⟨rfl, hb⟩; refine ⟨_, rfl, ?_⟩; replace HO_3 := am (Kd.S_below (by (with_reducible repeat (first | apply sA | apply sN | apply sD)); exact HO_3.out) hb); replace HO_4 := am (Kd.R_below (by (with_reducible repeat (first | apply rA | apply rN | apply rD)); exact HO_4.out) hb); replace HO722 := am (Kd.S_below (by (with_reducible repeat (first | apply sA | apply sN | apply sD)); exact HO722.out) hb); replace BK725 := am (blk_below (g := gb725) (o := .cells #[.int .i64 t723, .int .i64 t724] 48 (0, 0)) (by (with_reducible repeat (first | refine kN ?_ _ | refine kD ?_ | refine kA ?_ _)); exact BK725.out) hb); replace HB := am (below_step (by repeat (first | (with_reducible first | exact HB.out | apply bA | apply bN | apply bD | refine below_set ?_ GE725.out) | exact HB.out)) hb); (try clear hb); (try clear hb2); (try clear hk); (try clear hi); refine hK.out _ _ ⟨(blk_cell BK725.out 0).trans rfl, (blk_cell BK725.out 1).trans rfl⟩ (fun hHeld => ?_); clear hK K; refine nm_ 123 ?_; refine pv_ 24 21 124 4194303 rfl rfl HT_ ?_; refine pv_ 24 22 125 8388607 rfl rfl HT_ ?_; refine pv_ 24 23 2 16777215 rfl rfl HT_ ?_; refine done_ (done_of HT_.out (by kernel_rfl)) ?_; try go_wp2
         all_goals (go_ret; exact ⟨by first | rfl | (simp [*, errW_none, errW_some] <;> rfl), by repeat (first | (with_reducible first | exact HB.out | apply bA | apply bN | apply bD | refine below_set ?_ GE725.out) | exact HB.out)⟩)
        rw [if_pos c56] at H; have c56b0 : decide (x8_2 < (t693.length : Int)) = true := decide_eq_true c56; clear c56; replace H := ifn H; obtain ⟨c57, H⟩ := H; have c57b0 : decide (0 ≤ x8_2) = true := decide_eq_true c57; clear c57; replace H := Option.bind_eq_some_iff.mp H; obtain ⟨t713, A580, H⟩ := H; replace H : (if 0 ≤ t713 then (if t713 < (t690.length : Int) then ((impl_FindTeam.f t690 ((rd_T48 t693 x8_2).f1)).bind fun t716 => (if 0 ≤ t716 then (if t716 < (t690.length : Int) then (if ((rd_T78 t690 t713).f4) > ((rd_T78 t690 t716).f4) then (some false) else (laws_FnPairs.l0 k2 l0 t690 t693 (wrap64 (x8_2 + 1)))) else (none)) else (none))) else (none)) else (none)) = some r := H; have A58 := am A580; clear A580; replace H := ifn H; obtain ⟨c59, H⟩ := H; have c59b0 : decide (0 ≤ t713) = true := decide_eq_true c59; clear c59; replace H := ifn H; obtain ⟨c60, H⟩ := H; have c60b0 : decide (t713 < (t690.length : Int)) = true := decide_eq_true c60; clear c60; replace H := Option.bind_eq_some_iff.mp H; obtain ⟨t716, A610, H⟩ := H; replace H : (if 0 ≤ t716 then (if t716 < (t690.length : Int) then (if ((rd_T78 t690 t713).f4) > ((rd_T78 t690 t716).f4) then (some false) else (laws_FnPairs.l0 k2 l0 t690 t693 (wrap64 (x8_2 + 1)))) else (none)) else (none)) = some r := H; have A61 := am A610; clear A610; replace H := ifn H; obtain ⟨c62, H⟩ := H; have c62b0 : decide (0 ≤ t716) = true := decide_eq_true c62; clear c62; replace H := ifn H; obtain ⟨c63, H⟩ := H; have c63b0 : decide (t716 < (t690.length : Int)) = true := decide_eq_true c63; clear c63; by_cases c64 : ((rd_T78 t690 t713).f4) > ((rd_T78 t690 t716).f4)
        rotate_left
        ·
         rw [if_neg c64] at H; have c64b0 : decide (((rd_T78 t690 t716).f4) < ((rd_T78 t690 t713).f4)) = false := decide_eq_false c64; clear c64; have H' := am H; clear H; obtain ⟨Ao69, co69, eo69⟩ := Kd.R_slice HO_4.out; subst eo69; try go_wp2
         replace HO_3 := am (Kd.S_drew HO_3.out); replace HO_4 := am (Kd.R_drew HO_4.out); replace HB := am (below_drew1 HB.out); have p712 : 0 ≤ (x8_2 : Int) := od (by assumption); have q712 : x8_2 < (t693.length : Int) := od (by assumption); obtain ⟨ad712, e712, hx712_0, hx712_1⟩ := at_T48 (Kd.R_reads' HO_4.out).2.2 x8_2 p712 q712
         cases e712; replace p712 := eq_true p712; replace q712 := eq_true q712; have p715 : 0 ≤ (x8_2 : Int) := od (by assumption); have q715 : x8_2 < (t693.length : Int) := od (by assumption); obtain ⟨ad715, e715, hx715_0, hx715_1⟩ := at_T48 (Kd.R_reads' HO_4.out).2.2 x8_2 p715 q715; obtain rfl : ad712 = ad715 := (by injection e715); replace p715 := eq_true p715; replace q715 := eq_true q715; have p714 : 0 ≤ (t713 : Int) := od (by assumption); have q714 : t713 < (t690.length : Int) := od (by assumption); obtain ⟨ad714, A714_5, c714_5, e714, hx714_0, hx714_1, hx714_2, hx714_3, hx714_4, hx714_5, hl714_5, hi714_5⟩ := at_T78 (Kd.S_reads' HO_3.out).2.2 t713 p714 q714
         cases e714; obtain ⟨ce714, hce714, hMe714, hcc714⟩ := Kd.S_get HO_3.out z78 t713 p714 (by first | exact q714 | exact od (by assumption) | (have e_ := (Kd.S_reads' HO_3.out).1; omega)); obtain ⟨ve714_5, rfl, ge714_5⟩ := k78_openM hMe714; have hv714_5 := hcc714 5 _ rfl; rw [add_field _ _ 5 (by omega)] at hv714_5; replace hv714_5 := Option.some.inj (hv714_5.symm.trans hx714_5); rw [hv714_5] at ge714_5; have HL714_5 := am (show Kd.R (Kd.int .i64) 3 _ _ _ _ ((rd_T78 t690 t713).f5) from ge714_5); clear hv714_5 ge714_5 hcc714 hce714; have HR714_5 := am hi714_5; have HC714_5 := am hl714_5; clear hi714_5 hl714_5; replace p714 := eq_true p714; replace q714 := eq_true q714; have p717 : 0 ≤ (t716 : Int) := od (by assumption); have q717 : t716 < (t690.length : Int) := od (by assumption); obtain ⟨ad717, A717_5, c717_5, e717, hx717_0, hx717_1, hx717_2, hx717_3, hx717_4, hx717_5, hl717_5, hi717_5⟩ := at_T78 (Kd.S_reads' HO_3.out).2.2 t716 p717 q717; obtain rfl : ad714 = ad717 := (by injection e717); obtain ⟨ce717, hce717, hMe717, hcc717⟩ := Kd.S_get HO_3.out z78 t716 p717 (by first | exact q717 | exact od (by assumption) | (have e_ := (Kd.S_reads' HO_3.out).1; omega)); obtain ⟨ve717_5, rfl, ge717_5⟩ := k78_openM hMe717; have hv717_5 := hcc717 5 _ rfl; rw [add_field _ _ 5 (by omega)] at hv717_5; replace hv717_5 := Option.some.inj (hv717_5.symm.trans hx717_5); rw [hv717_5] at ge717_5; have HL717_5 := am (show Kd.R (Kd.int .i64) 3 _ _ _ _ ((rd_T78 t690 t716).f5) from ge717_5); clear hv717_5 ge717_5 hcc717 hce717; have HR717_5 := am hi717_5; have HC717_5 := am hl717_5; clear hi717_5 hl717_5; replace p717 := eq_true p717; replace q717 := eq_true q717; refine start_ (n := 23) (S := fun w' => w'.cell? (ad712.add ((x8_2).toNat * 2)) = some (.int .i64 ((rd_T48 t693 x8_2).f0)) ∧ w'.cell? ⟨(ad712.add ((x8_2).toNat * 2)).block, (ad712.add ((x8_2).toNat * 2)).off + 1, none⟩ = some (.int .i64 ((rd_T48 t693 x8_2).f1)) ∧ w'.cell? (ad712.add ((x8_2).toNat * 2)) = some (.int .i64 ((rd_T48 t693 x8_2).f0)) ∧ w'.cell? ⟨(ad712.add ((x8_2).toNat * 2)).block, (ad712.add ((x8_2).toNat * 2)).off + 1, none⟩ = some (.int .i64 ((rd_T48 t693 x8_2).f1)) ∧ w'.cell? (ad714.add ((t713).toNat * 6)) = some (.int .i64 ((rd_T78 t690 t713).f0)) ∧ w'.cell? ⟨(ad714.add ((t713).toNat * 6)).block, (ad714.add ((t713).toNat * 6)).off + 1, none⟩ = some (.int .i64 ((rd_T78 t690 t713).f1)) ∧ w'.cell? ⟨(ad714.add ((t713).toNat * 6)).block, (ad714.add ((t713).toNat * 6)).off + 2, none⟩ = some (.int .i64 ((rd_T78 t690 t713).f2)) ∧ w'.cell? ⟨(ad714.add ((t713).toNat * 6)).block, (ad714.add ((t713).toNat * 6)).off + 3, none⟩ = some (.int .i64 ((rd_T78 t690 t713).f3)) ∧ w'.cell? ⟨(ad714.add ((t713).toNat * 6)).block, (ad714.add ((t713).toNat * 6)).off + 4, none⟩ = some (.int .i64 ((rd_T78 t690 t713).f4)) ∧ w'.cell? ⟨(ad714.add ((t713).toNat * 6)).block, (ad714.add ((t713).toNat * 6)).off + 5, none⟩ = some (.slice A714_5 ((rd_T78 t690 t713).f5).length c714_5) ∧ w'.cell? (ad714.add ((t716).toNat * 6)) = some (.int .i64 ((rd_T78 t690 t716).f0)) ∧ w'.cell? ⟨(ad714.add ((t716).toNat * 6)).block, (ad714.add ((t716).toNat * 6)).off + 1, none⟩ = some (.int .i64 ((rd_T78 t690 t716).f1)) ∧ w'.cell? ⟨(ad714.add ((t716).toNat * 6)).block, (ad714.add ((t716).toNat * 6)).off + 2, none⟩ = some (.int .i64 ((rd_T78 t690 t716).f2)) ∧ w'.cell? ⟨(ad714.add ((t716).toNat * 6)).block, (ad714.add ((t716).toNat * 6)).off + 3, none⟩ = some (.int .i64 ((rd_T78 t690 t716).f3)) ∧ w'.cell? ⟨(ad714.add ((t716).toNat * 6)).block, (ad714.add ((t716).toNat * 6)).off + 4, none⟩ = some (.int .i64 ((rd_T78 t690 t716).f4)) ∧ w'.cell? ⟨(ad714.add ((t716).toNat * 6)).block, (ad714.add ((t716).toNat * 6)).off + 5, none⟩ = some (.slice A717_5 ((rd_T78 t690 t716).f5).length c717_5)) (ds := []) (bv 23 0) (by kernel_rfl) rfl rfl ⟨hx712_0, hx712_1, hx715_0, hx715_1, hx714_0, hx714_1, hx714_2, hx714_3, hx714_4, hx714_5, hx717_0, hx717_1, hx717_2, hx717_3, hx717_4, hx717_5⟩ (fun hHeld => ?_); refine with_tabW laws_FnPairs.tab13 laws_FnPairs.bits13 (fun HT_ HW_ => ?_); generalize wr.drew = w70 at HO_3 HO_4 HB HL714_5 HL717_5 HR714_5 HR717_5 hx712_0 hx712_1 hx714_0 hx714_1 hx714_2 hx714_3 hx714_4 hx714_5 hx715_0 hx715_1 hx717_0 hx717_1 hx717_2 hx717_3 hx717_4 hx717_5 hHeld ⊢; refine pv_ 23 0 70 1 rfl rfl HT_ ?_; refine pv_ 23 1 71 3 rfl rfl HT_ ?_; refine pv_ 23 2 72 7 rfl rfl HT_ ?_; refine pv_ 23 3 73 15 rfl rfl HT_ ?_; refine pv_ 23 4 74 31 rfl rfl HT_ ?_; refine pv_ 23 5 75 63 rfl rfl HT_ ?_; refine pv_ 23 11 81 2111 rfl rfl HT_ ?_; refine pv_ 23 12 82 6207 rfl rfl HT_ ?_; refine pv_ 23 13 83 14399 rfl rfl HT_ ?_; refine pv_ 23 14 84 30783 rfl rfl HT_ ?_; refine pv_ 23 15 85 63551 rfl rfl HT_ ?_; refine pv_ 23 16 86 129087 rfl rfl HT_ ?_; refine tv_ 23 6 76 129151 rfl rfl HT_ HW_ hHeld (by rintro w' ⟨s0, s1, s2, s3, s4, s5, s6, s7, s8, s9, s10, s11, s12, s13, s14, s15⟩; go_simp; with_reducible rfl) ?_; refine tv_ 23 17 87 260223 rfl rfl HT_ HW_ hHeld (by rintro w' ⟨s0, s1, s2, s3, s4, s5, s6, s7, s8, s9, s10, s11, s12, s13, s14, s15⟩; go_simp; with_reducible rfl) ?_; refine one_ (i := 7) (N := some 77) (bv 23 260351) rfl rfl (one_of HT_.out (by kernel_rfl)) (by decide) (fun K hK => ?_); refine goes_ Try.func51 (by kernel_rfl) rfl #[.slice (some ad714) t690.length co14, .int .i64 ((rd_T48 t693 x8_2).f0)] (by rfl) rfl rfl (by (try simp only [Y1, Y2, Y3]); first | done | rfl | (simp only [Y4, Y5]; rfl)) ?_; with_reducible refine (impl_FindTeam.calls _ _ t690 ((rd_T48 t693 x8_2).f0) t713 _ ?side1 ?side2 A58.out).mono ?_
         (case side1 => repeat (first | exact (Kd.S_reads' HO_3.out).2.2 | (with_reducible first | refine cA ?_ _ | refine cN ?_ _ | refine cD ?_))); (case side2 => exact (Kd.S_reads' HO_3.out).2.1); rintro e w71 ⟨rfl, hb⟩; have HS0_ := (hb.cell (bl _ _ (hHeld.1))).trans (hHeld.1); have HS1_ := (hb.cell (bl _ _ (hHeld.2.1))).trans (hHeld.2.1); have HS2_ := (hb.cell (bl _ _ (hHeld.2.2.1))).trans (hHeld.2.2.1); have HS3_ := (hb.cell (bl _ _ (hHeld.2.2.2.1))).trans (hHeld.2.2.2.1); have HS4_ := (hb.cell (bl _ _ (hHeld.2.2.2.2.1))).trans (hHeld.2.2.2.2.1); have HS5_ := (hb.cell (bl _ _ (hHeld.2.2.2.2.2.1))).trans (hHeld.2.2.2.2.2.1); have HS6_ := (hb.cell (bl _ _ (hHeld.2.2.2.2.2.2.1))).trans (hHeld.2.2.2.2.2.2.1); have HS7_ := (hb.cell (bl _ _ (hHeld.2.2.2.2.2.2.2.1))).trans (hHeld.2.2.2.2.2.2.2.1); have HS8_ := (hb.cell (bl _ _ (hHeld.2.2.2.2.2.2.2.2.1))).trans (hHeld.2.2.2.2.2.2.2.2.1); have HS9_ := (hb.cell (bl _ _ (hHeld.2.2.2.2.2.2.2.2.2.1))).trans (hHeld.2.2.2.2.2.2.2.2.2.1); have HS10_ := (hb.cell (bl _ _ (hHeld.2.2.2.2.2.2.2.2.2.2.1))).trans (hHeld.2.2.2.2.2.2.2.2.2.2.1); have HS11_ := (hb.cell (bl _ _ (hHeld.2.2.2.2.2.2.2.2.2.2.2.1))).trans (hHeld.2.2.2.2.2.2.2.2.2.2.2.1); have HS12_ := (hb.cell (bl _ _ (hHeld.2.2.2.2.2.2.2.2.2.2.2.2.1))).trans (hHeld.2.2.2.2.2.2.2.2.2.2.2.2.1); have HS13_ := (hb.cell (bl _ _ (hHeld.2.2.2.2.2.2.2.2.2.2.2.2.2.1))).trans (hHeld.2.2.2.2.2.2.2.2.2.2.2.2.2.1); have HS14_ := (hb.cell (bl _ _ (hHeld.2.2.2.2.2.2.2.2.2.2.2.2.2.2.1))).trans (hHeld.2.2.2.2.2.2.2.2.2.2.2.2.2.2.1); have HS15_ := (hb.cell (bl _ _ (hHeld.2.2.2.2.2.2.2.2.2.2.2.2.2.2.2))).trans (hHeld.2.2.2.2.2.2.2.2.2.2.2.2.2.2.2); refine ⟨_, rfl, ?_⟩; replace HO_3 := am (Kd.S_below (by (with_reducible repeat (first | apply sA | apply sN | apply sD)); exact HO_3.out) hb); replace HO_4 := am (Kd.R_below (by (with_reducible repeat (first | apply rA | apply rN | apply rD)); exact HO_4.out) hb); replace HB := am (below_step (by repeat (first | (with_reducible first | exact HB.out | apply bA | apply bN | apply bD) | exact HB.out)) hb); (try clear hb); (try clear hb2); (try clear hk); (try clear hi); refine hK.out _ _ ⟨HS0_, HS1_, HS2_, HS3_, HS4_, HS5_, HS6_, HS7_, HS8_, HS9_, HS10_, HS11_, HS12_, HS13_, HS14_, HS15_⟩ (fun hHeld => ?_); clear hK K; refine nm_ 77 ?_; refine pv_ 23 8 78 260607 rfl rfl HT_ ?_; refine pv_ 23 9 79 261119 rfl rfl HT_ ?_; refine tv_ 23 10 80 262143 rfl rfl HT_ HW_ hHeld (by rintro w' ⟨s0, s1, s2, s3, s4, s5, s6, s7, s8, s9, s10, s11, s12, s13, s14, s15⟩; go_simp; with_reducible rfl) ?_; refine one_ (i := 18) (N := some 88) (bv 23 524287) rfl rfl (one_of HT_.out (by kernel_rfl)) (by decide) (fun K hK => ?_); refine goes_ Try.func51 (by kernel_rfl) rfl #[.slice (some ad714) t690.length co14, .int .i64 ((rd_T48 t693 x8_2).f1)] (by rfl) rfl rfl (by (try simp only [Y1, Y2, Y3]); first | done | rfl | (simp only [Y4, Y5]; rfl)) ?_; with_reducible refine (impl_FindTeam.calls _ _ t690 ((rd_T48 t693 x8_2).f1) t716 _ ?side1 ?side2 A61.out).mono ?_
         (case side1 => repeat (first | exact (Kd.S_reads' HO_3.out).2.2 | (with_reducible first | refine cA ?_ _ | refine cN ?_ _ | refine cD ?_))); (case side2 => exact (Kd.S_reads' HO_3.out).2.1); rintro e w72 ⟨rfl, hb⟩; have HS0_ := (hb.cell (bl _ _ (hHeld.1))).trans (hHeld.1); have HS1_ := (hb.cell (bl _ _ (hHeld.2.1))).trans (hHeld.2.1); have HS2_ := (hb.cell (bl _ _ (hHeld.2.2.1))).trans (hHeld.2.2.1); have HS3_ := (hb.cell (bl _ _ (hHeld.2.2.2.1))).trans (hHeld.2.2.2.1); have HS4_ := (hb.cell (bl _ _ (hHeld.2.2.2.2.1))).trans (hHeld.2.2.2.2.1); have HS5_ := (hb.cell (bl _ _ (hHeld.2.2.2.2.2.1))).trans (hHeld.2.2.2.2.2.1); have HS6_ := (hb.cell (bl _ _ (hHeld.2.2.2.2.2.2.1))).trans (hHeld.2.2.2.2.2.2.1); have HS7_ := (hb.cell (bl _ _ (hHeld.2.2.2.2.2.2.2.1))).trans (hHeld.2.2.2.2.2.2.2.1); have HS8_ := (hb.cell (bl _ _ (hHeld.2.2.2.2.2.2.2.2.1))).trans (hHeld.2.2.2.2.2.2.2.2.1); have HS9_ := (hb.cell (bl _ _ (hHeld.2.2.2.2.2.2.2.2.2.1))).trans (hHeld.2.2.2.2.2.2.2.2.2.1); have HS10_ := (hb.cell (bl _ _ (hHeld.2.2.2.2.2.2.2.2.2.2.1))).trans (hHeld.2.2.2.2.2.2.2.2.2.2.1); have HS11_ := (hb.cell (bl _ _ (hHeld.2.2.2.2.2.2.2.2.2.2.2.1))).trans (hHeld.2.2.2.2.2.2.2.2.2.2.2.1); have HS12_ := (hb.cell (bl _ _ (hHeld.2.2.2.2.2.2.2.2.2.2.2.2.1))).trans (hHeld.2.2.2.2.2.2.2.2.2.2.2.2.1); have HS13_ := (hb.cell (bl _ _ (hHeld.2.2.2.2.2.2.2.2.2.2.2.2.2.1))).trans (hHeld.2.2.2.2.2.2.2.2.2.2.2.2.2.1); have HS14_ := (hb.cell (bl _ _ (hHeld.2.2.2.2.2.2.2.2.2.2.2.2.2.2.1))).trans (hHeld.2.2.2.2.2.2.2.2.2.2.2.2.2.2.1); have HS15_ := (hb.cell (bl _ _ (hHeld.2.2.2.2.2.2.2.2.2.2.2.2.2.2.2))).trans (hHeld.2.2.2.2.2.2.2.2.2.2.2.2.2.2.2); refine ⟨_, rfl, ?_⟩; have n0_ := am (Kd.S_below (by (with_reducible repeat (first | apply sA | apply sN | apply sD)); exact HO_3.out) hb); have n1_ := am (Kd.R_below (by (with_reducible repeat (first | apply rA | apply rN | apply rD)); exact HO_4.out) hb); have n2_ := trivial; have n3_ := trivial; have n4_ := am (below_step (by repeat (first | (with_reducible first | exact HB.out | apply bA | apply bN | apply bD) | exact HB.out)) hb); clear HO_3 HO_4 HL714_5 HR714_5 HB; have HO_3 := n0_; have HO_4 := n1_; have HL714_5 := n2_; have HR714_5 := n3_; have HB := n4_; clear n0_ n1_ n2_ n3_ n4_; (try clear hb); (try clear hb2); (try clear hk); (try clear hi); refine hK.out _ _ ⟨HS0_, HS1_, HS2_, HS3_, HS4_, HS5_, HS6_, HS7_, HS8_, HS9_, HS10_, HS11_, HS12_, HS13_, HS14_, HS15_⟩ (fun hHeld => ?_); clear hK K; refine nm_ 88 ?_; refine pv_ 23 19 89 1048575 rfl rfl HT_ ?_; refine pv_ 23 20 90 2097151 rfl rfl HT_ ?_; refine tv_ 23 21 91 4194303 rfl rfl HT_ HW_ hHeld (by rintro w' ⟨s0, s1, s2, s3, s4, s5, s6, s7, s8, s9, s10, s11, s12, s13, s14, s15⟩; go_simp; with_reducible rfl) ?_; refine pv_ 23 22 92 8388607 rfl rfl HT_ ?_; refine done_ (done_of HT_.out (by kernel_rfl)) ?_; try go_wp2
         go_roundg k2
         case measure => have := HJ11.out; have := HK2.out; omega
         case rel => exact ⟨(wrap64 (x8_2 + 1)), (by first | rfl | (simp; done) | (simp [*]; done)), H', ⟨by have := HJ11.out; have := HK2.out; omega⟩, ⟨by (with_reducible repeat (first | apply sA | apply sN | apply sD)); exact HO_3.out⟩, ⟨by (with_reducible repeat (first | apply rA | apply rN | apply rD)); exact HO_4.out⟩, ⟨by repeat (first | (with_reducible first | exact HB.out | apply bA | apply bN | apply bD) | exact HB.out)⟩⟩
        rw [if_pos c64] at H; have c64b0 : decide (((rd_T78 t690 t716).f4) < ((rd_T78 t690 t713).f4)) = true := decide_eq_true c64; clear c64; obtain rfl := Option.some.inj H; obtain ⟨Ao65, co65, eo65⟩ := Kd.R_slice HO_4.out; subst eo65; try go_wp2
        replace HO_3 := am (Kd.S_drew HO_3.out); replace HO_4 := am (Kd.R_drew HO_4.out); replace HB := am (below_drew1 HB.out); have p712 : 0 ≤ (x8_2 : Int) := od (by assumption); have q712 : x8_2 < (t693.length : Int) := od (by assumption); obtain ⟨ad712, e712, hx712_0, hx712_1⟩ := at_T48 (Kd.R_reads' HO_4.out).2.2 x8_2 p712 q712
        cases e712; replace p712 := eq_true p712; replace q712 := eq_true q712; have p715 : 0 ≤ (x8_2 : Int) := od (by assumption); have q715 : x8_2 < (t693.length : Int) := od (by assumption); obtain ⟨ad715, e715, hx715_0, hx715_1⟩ := at_T48 (Kd.R_reads' HO_4.out).2.2 x8_2 p715 q715; obtain rfl : ad712 = ad715 := (by injection e715); replace p715 := eq_true p715; replace q715 := eq_true q715; have p714 : 0 ≤ (t713 : Int) := od (by assumption); have q714 : t713 < (t690.length : Int) := od (by assumption); obtain ⟨ad714, A714_5, c714_5, e714, hx714_0, hx714_1, hx714_2, hx714_3, hx714_4, hx714_5, hl714_5, hi714_5⟩ := at_T78 (Kd.S_reads' HO_3.out).2.2 t713 p714 q714
        cases e714; obtain ⟨ce714, hce714, hMe714, hcc714⟩ := Kd.S_get HO_3.out z78 t713 p714 (by first | exact q714 | exact od (by assumption) | (have e_ := (Kd.S_reads' HO_3.out).1; omega)); obtain ⟨ve714_5, rfl, ge714_5⟩ := k78_openM hMe714; have hv714_5 := hcc714 5 _ rfl; rw [add_field _ _ 5 (by omega)] at hv714_5; replace hv714_5 := Option.some.inj (hv714_5.symm.trans hx714_5); rw [hv714_5] at ge714_5; have HL714_5 := am (show Kd.R (Kd.int .i64) 3 _ _ _ _ ((rd_T78 t690 t713).f5) from ge714_5); clear hv714_5 ge714_5 hcc714 hce714; have HR714_5 := am hi714_5; have HC714_5 := am hl714_5; clear hi714_5 hl714_5; replace p714 := eq_true p714; replace q714 := eq_true q714; have p717 : 0 ≤ (t716 : Int) := od (by assumption); have q717 : t716 < (t690.length : Int) := od (by assumption); obtain ⟨ad717, A717_5, c717_5, e717, hx717_0, hx717_1, hx717_2, hx717_3, hx717_4, hx717_5, hl717_5, hi717_5⟩ := at_T78 (Kd.S_reads' HO_3.out).2.2 t716 p717 q717; obtain rfl : ad714 = ad717 := (by injection e717); obtain ⟨ce717, hce717, hMe717, hcc717⟩ := Kd.S_get HO_3.out z78 t716 p717 (by first | exact q717 | exact od (by assumption) | (have e_ := (Kd.S_reads' HO_3.out).1; omega)); obtain ⟨ve717_5, rfl, ge717_5⟩ := k78_openM hMe717; have hv717_5 := hcc717 5 _ rfl; rw [add_field _ _ 5 (by omega)] at hv717_5; replace hv717_5 := Option.some.inj (hv717_5.symm.trans hx717_5); rw [hv717_5] at ge717_5; have HL717_5 := am (show Kd.R (Kd.int .i64) 3 _ _ _ _ ((rd_T78 t690 t716).f5) from ge717_5); clear hv717_5 ge717_5 hcc717 hce717; have HR717_5 := am hi717_5; have HC717_5 := am hl717_5; clear hi717_5 hl717_5; replace p717 := eq_true p717; replace q717 := eq_true q717; refine start_ (n := 23) (S := fun w' => w'.cell? (ad712.add ((x8_2).toNat * 2)) = some (.int .i64 ((rd_T48 t693 x8_2).f0)) ∧ w'.cell? ⟨(ad712.add ((x8_2).toNat * 2)).block, (ad712.add ((x8_2).toNat * 2)).off + 1, none⟩ = some (.int .i64 ((rd_T48 t693 x8_2).f1)) ∧ w'.cell? (ad712.add ((x8_2).toNat * 2)) = some (.int .i64 ((rd_T48 t693 x8_2).f0)) ∧ w'.cell? ⟨(ad712.add ((x8_2).toNat * 2)).block, (ad712.add ((x8_2).toNat * 2)).off + 1, none⟩ = some (.int .i64 ((rd_T48 t693 x8_2).f1)) ∧ w'.cell? (ad714.add ((t713).toNat * 6)) = some (.int .i64 ((rd_T78 t690 t713).f0)) ∧ w'.cell? ⟨(ad714.add ((t713).toNat * 6)).block, (ad714.add ((t713).toNat * 6)).off + 1, none⟩ = some (.int .i64 ((rd_T78 t690 t713).f1)) ∧ w'.cell? ⟨(ad714.add ((t713).toNat * 6)).block, (ad714.add ((t713).toNat * 6)).off + 2, none⟩ = some (.int .i64 ((rd_T78 t690 t713).f2)) ∧ w'.cell? ⟨(ad714.add ((t713).toNat * 6)).block, (ad714.add ((t713).toNat * 6)).off + 3, none⟩ = some (.int .i64 ((rd_T78 t690 t713).f3)) ∧ w'.cell? ⟨(ad714.add ((t713).toNat * 6)).block, (ad714.add ((t713).toNat * 6)).off + 4, none⟩ = some (.int .i64 ((rd_T78 t690 t713).f4)) ∧ w'.cell? ⟨(ad714.add ((t713).toNat * 6)).block, (ad714.add ((t713).toNat * 6)).off + 5, none⟩ = some (.slice A714_5 ((rd_T78 t690 t713).f5).length c714_5) ∧ w'.cell? (ad714.add ((t716).toNat * 6)) = some (.int .i64 ((rd_T78 t690 t716).f0)) ∧ w'.cell? ⟨(ad714.add ((t716).toNat * 6)).block, (ad714.add ((t716).toNat * 6)).off + 1, none⟩ = some (.int .i64 ((rd_T78 t690 t716).f1)) ∧ w'.cell? ⟨(ad714.add ((t716).toNat * 6)).block, (ad714.add ((t716).toNat * 6)).off + 2, none⟩ = some (.int .i64 ((rd_T78 t690 t716).f2)) ∧ w'.cell? ⟨(ad714.add ((t716).toNat * 6)).block, (ad714.add ((t716).toNat * 6)).off + 3, none⟩ = some (.int .i64 ((rd_T78 t690 t716).f3)) ∧ w'.cell? ⟨(ad714.add ((t716).toNat * 6)).block, (ad714.add ((t716).toNat * 6)).off + 4, none⟩ = some (.int .i64 ((rd_T78 t690 t716).f4)) ∧ w'.cell? ⟨(ad714.add ((t716).toNat * 6)).block, (ad714.add ((t716).toNat * 6)).off + 5, none⟩ = some (.slice A717_5 ((rd_T78 t690 t716).f5).length c717_5)) (ds := []) (bv 23 0) (by kernel_rfl) rfl rfl ⟨hx712_0, hx712_1, hx715_0, hx715_1, hx714_0, hx714_1, hx714_2, hx714_3, hx714_4, hx714_5, hx717_0, hx717_1, hx717_2, hx717_3, hx717_4, hx717_5⟩ (fun hHeld => ?_); refine with_tabW laws_FnPairs.tab13 laws_FnPairs.bits13 (fun HT_ HW_ => ?_); generalize wr.drew = w66 at HO_3 HO_4 HB HL714_5 HL717_5 HR714_5 HR717_5 hx712_0 hx712_1 hx714_0 hx714_1 hx714_2 hx714_3 hx714_4 hx714_5 hx715_0 hx715_1 hx717_0 hx717_1 hx717_2 hx717_3 hx717_4 hx717_5 hHeld ⊢; refine pv_ 23 0 70 1 rfl rfl HT_ ?_; refine pv_ 23 1 71 3 rfl rfl HT_ ?_; refine pv_ 23 2 72 7 rfl rfl HT_ ?_; refine pv_ 23 3 73 15 rfl rfl HT_ ?_; refine pv_ 23 4 74 31 rfl rfl HT_ ?_; refine pv_ 23 5 75 63 rfl rfl HT_ ?_; refine pv_ 23 11 81 2111 rfl rfl HT_ ?_; refine pv_ 23 12 82 6207 rfl rfl HT_ ?_; refine pv_ 23 13 83 14399 rfl rfl HT_ ?_; refine pv_ 23 14 84 30783 rfl rfl HT_ ?_; refine pv_ 23 15 85 63551 rfl rfl HT_ ?_; refine pv_ 23 16 86 129087 rfl rfl HT_ ?_; refine tv_ 23 6 76 129151 rfl rfl HT_ HW_ hHeld (by rintro w' ⟨s0, s1, s2, s3, s4, s5, s6, s7, s8, s9, s10, s11, s12, s13, s14, s15⟩; go_simp; with_reducible rfl) ?_; refine tv_ 23 17 87 260223 rfl rfl HT_ HW_ hHeld (by rintro w' ⟨s0, s1, s2, s3, s4, s5, s6, s7, s8, s9, s10, s11, s12, s13, s14, s15⟩; go_simp; with_reducible rfl) ?_; refine one_ (i := 7) (N := some 77) (bv 23 260351) rfl rfl (one_of HT_.out (by kernel_rfl)) (by decide) (fun K hK => ?_); refine goes_ Try.func51 (by kernel_rfl) rfl #[.slice (some ad714) t690.length co14, .int .i64 ((rd_T48 t693 x8_2).f0)] (by rfl) rfl rfl (by (try simp only [Y1, Y2, Y3]); first | done | rfl | (simp only [Y4, Y5]; rfl)) ?_; with_reducible refine (impl_FindTeam.calls _ _ t690 ((rd_T48 t693 x8_2).f0) t713 _ ?side1 ?side2 A58.out).mono ?_
        (case side1 => repeat (first | exact (Kd.S_reads' HO_3.out).2.2 | (with_reducible first | refine cA ?_ _ | refine cN ?_ _ | refine cD ?_))); (case side2 => exact (Kd.S_reads' HO_3.out).2.1); rintro e w67 ⟨rfl, hb⟩; have HS0_ := (hb.cell (bl _ _ (hHeld.1))).trans (hHeld.1); have HS1_ := (hb.cell (bl _ _ (hHeld.2.1))).trans (hHeld.2.1); have HS2_ := (hb.cell (bl _ _ (hHeld.2.2.1))).trans (hHeld.2.2.1); have HS3_ := (hb.cell (bl _ _ (hHeld.2.2.2.1))).trans (hHeld.2.2.2.1); have HS4_ := (hb.cell (bl _ _ (hHeld.2.2.2.2.1))).trans (hHeld.2.2.2.2.1); have HS5_ := (hb.cell (bl _ _ (hHeld.2.2.2.2.2.1))).trans (hHeld.2.2.2.2.2.1); have HS6_ := (hb.cell (bl _ _ (hHeld.2.2.2.2.2.2.1))).trans (hHeld.2.2.2.2.2.2.1); have HS7_ := (hb.cell (bl _ _ (hHeld.2.2.2.2.2.2.2.1))).trans (hHeld.2.2.2.2.2.2.2.1); have HS8_ := (hb.cell (bl _ _ (hHeld.2.2.2.2.2.2.2.2.1))).trans (hHeld.2.2.2.2.2.2.2.2.1); have HS9_ := (hb.cell (bl _ _ (hHeld.2.2.2.2.2.2.2.2.2.1))).trans (hHeld.2.2.2.2.2.2.2.2.2.1); have HS10_ := (hb.cell (bl _ _ (hHeld.2.2.2.2.2.2.2.2.2.2.1))).trans (hHeld.2.2.2.2.2.2.2.2.2.2.1); have HS11_ := (hb.cell (bl _ _ (hHeld.2.2.2.2.2.2.2.2.2.2.2.1))).trans (hHeld.2.2.2.2.2.2.2.2.2.2.2.1); have HS12_ := (hb.cell (bl _ _ (hHeld.2.2.2.2.2.2.2.2.2.2.2.2.1))).trans (hHeld.2.2.2.2.2.2.2.2.2.2.2.2.1); have HS13_ := (hb.cell (bl _ _ (hHeld.2.2.2.2.2.2.2.2.2.2.2.2.2.1))).trans (hHeld.2.2.2.2.2.2.2.2.2.2.2.2.2.1); have HS14_ := (hb.cell (bl _ _ (hHeld.2.2.2.2.2.2.2.2.2.2.2.2.2.2.1))).trans (hHeld.2.2.2.2.2.2.2.2.2.2.2.2.2.2.1); have HS15_ := (hb.cell (bl _ _ (hHeld.2.2.2.2.2.2.2.2.2.2.2.2.2.2.2))).trans (hHeld.2.2.2.2.2.2.2.2.2.2.2.2.2.2.2); refine ⟨_, rfl, ?_⟩; replace HO_3 := am (Kd.S_below (by (with_reducible repeat (first | apply sA | apply sN | apply sD)); exact HO_3.out) hb); replace HO_4 := am (Kd.R_below (by (with_reducible repeat (first | apply rA | apply rN | apply rD)); exact HO_4.out) hb); replace HB := am (below_step (by repeat (first | (with_reducible first | exact HB.out | apply bA | apply bN | apply bD) | exact HB.out)) hb); (try clear hb); (try clear hb2); (try clear hk); (try clear hi); refine hK.out _ _ ⟨HS0_, HS1_, HS2_, HS3_, HS4_, HS5_, HS6_, HS7_, HS8_, HS9_, HS10_, HS11_, HS12_, HS13_, HS14_, HS15_⟩ (fun hHeld => ?_); clear hK K; refine nm_ 77 ?_; refine pv_ 23 8 78 260607 rfl rfl HT_ ?_; refine pv_ 23 9 79 261119 rfl rfl HT_ ?_; refine tv_ 23 10 80 262143 rfl rfl HT_ HW_ hHeld (by rintro w' ⟨s0, s1, s2, s3, s4, s5, s6, s7, s8, s9, s10, s11, s12, s13, s14, s15⟩; go_simp; with_reducible rfl) ?_; refine one_ (i := 18) (N := some 88) (bv 23 524287) rfl rfl (one_of HT_.out (by kernel_rfl)) (by decide) (fun K hK => ?_); refine goes_ Try.func51 (by kernel_rfl) rfl #[.slice (some ad714) t690.length co14, .int .i64 ((rd_T48 t693 x8_2).f1)] (by rfl) rfl rfl (by (try simp only [Y1, Y2, Y3]); first | done | rfl | (simp only [Y4, Y5]; rfl)) ?_; with_reducible refine (impl_FindTeam.calls _ _ t690 ((rd_T48 t693 x8_2).f1) t716 _ ?side1 ?side2 A61.out).mono ?_
        (case side1 => repeat (first | exact (Kd.S_reads' HO_3.out).2.2 | (with_reducible first | refine cA ?_ _ | refine cN ?_ _ | refine cD ?_))); (case side2 => exact (Kd.S_reads' HO_3.out).2.1); rintro e w68 ⟨rfl, hb⟩; have HS0_ := (hb.cell (bl _ _ (hHeld.1))).trans (hHeld.1); have HS1_ := (hb.cell (bl _ _ (hHeld.2.1))).trans (hHeld.2.1); have HS2_ := (hb.cell (bl _ _ (hHeld.2.2.1))).trans (hHeld.2.2.1); have HS3_ := (hb.cell (bl _ _ (hHeld.2.2.2.1))).trans (hHeld.2.2.2.1); have HS4_ := (hb.cell (bl _ _ (hHeld.2.2.2.2.1))).trans (hHeld.2.2.2.2.1); have HS5_ := (hb.cell (bl _ _ (hHeld.2.2.2.2.2.1))).trans (hHeld.2.2.2.2.2.1); have HS6_ := (hb.cell (bl _ _ (hHeld.2.2.2.2.2.2.1))).trans (hHeld.2.2.2.2.2.2.1); have HS7_ := (hb.cell (bl _ _ (hHeld.2.2.2.2.2.2.2.1))).trans (hHeld.2.2.2.2.2.2.2.1); have HS8_ := (hb.cell (bl _ _ (hHeld.2.2.2.2.2.2.2.2.1))).trans (hHeld.2.2.2.2.2.2.2.2.1); have HS9_ := (hb.cell (bl _ _ (hHeld.2.2.2.2.2.2.2.2.2.1))).trans (hHeld.2.2.2.2.2.2.2.2.2.1); have HS10_ := (hb.cell (bl _ _ (hHeld.2.2.2.2.2.2.2.2.2.2.1))).trans (hHeld.2.2.2.2.2.2.2.2.2.2.1); have HS11_ := (hb.cell (bl _ _ (hHeld.2.2.2.2.2.2.2.2.2.2.2.1))).trans (hHeld.2.2.2.2.2.2.2.2.2.2.2.1); have HS12_ := (hb.cell (bl _ _ (hHeld.2.2.2.2.2.2.2.2.2.2.2.2.1))).trans (hHeld.2.2.2.2.2.2.2.2.2.2.2.2.1); have HS13_ := (hb.cell (bl _ _ (hHeld.2.2.2.2.2.2.2.2.2.2.2.2.2.1))).trans (hHeld.2.2.2.2.2.2.2.2.2.2.2.2.2.1); have HS14_ := (hb.cell (bl _ _ (hHeld.2.2.2.2.2.2.2.2.2.2.2.2.2.2.1))).trans (hHeld.2.2.2.2.2.2.2.2.2.2.2.2.2.2.1); have HS15_ := (hb.cell (bl _ _ (hHeld.2.2.2.2.2.2.2.2.2.2.2.2.2.2.2))).trans (hHeld.2.2.2.2.2.2.2.2.2.2.2.2.2.2.2); refine ⟨_, rfl, ?_⟩; have n0_ := am (Kd.S_below (by (with_reducible repeat (first | apply sA | apply sN | apply sD)); exact HO_3.out) hb); have n1_ := am (Kd.R_below (by (with_reducible repeat (first | apply rA | apply rN | apply rD)); exact HO_4.out) hb); have n2_ := trivial; have n3_ := trivial; have n4_ := am (below_step (by repeat (first | (with_reducible first | exact HB.out | apply bA | apply bN | apply bD) | exact HB.out)) hb); clear HO_3 HO_4 HL714_5 HR714_5 HB; have HO_3 := n0_; have HO_4 := n1_; have HL714_5 := n2_; have HR714_5 := n3_; have HB := n4_; clear n0_ n1_ n2_ n3_ n4_; (try clear hb); (try clear hb2); (try clear hk); (try clear hi); refine hK.out _ _ ⟨HS0_, HS1_, HS2_, HS3_, HS4_, HS5_, HS6_, HS7_, HS8_, HS9_, HS10_, HS11_, HS12_, HS13_, HS14_, HS15_⟩ (fun hHeld => ?_); clear hK K; refine nm_ 88 ?_; refine pv_ 23 19 89 1048575 rfl rfl HT_ ?_; refine pv_ 23 20 90 2097151 rfl rfl HT_ ?_; refine tv_ 23 21 91 4194303 rfl rfl HT_ HW_ hHeld (by rintro w' ⟨s0, s1, s2, s3, s4, s5, s6, s7, s8, s9, s10, s11, s12, s13, s14, s15⟩; go_simp; with_reducible rfl) ?_; refine pv_ 23 22 92 8388607 rfl rfl HT_ ?_; refine done_ (done_of HT_.out (by kernel_rfl)) ?_; try go_wp2
        all_goals (go_ret; exact ⟨by first | rfl | (simp [*, errW_none, errW_some] <;> rfl), by repeat (first | (with_reducible first | exact HB.out | apply bA | apply bN | apply bD) | exact HB.out)⟩)
     subst c55; have H1 : (some false) = some r := by rw [if_pos rfl] at H; exact H
     clear H; have H := H1; clear H1; obtain rfl := Option.some.inj H; go_wp2
     all_goals (go_ret; exact ⟨by first | rfl | (simp [*, errW_none, errW_some] <;> rfl), by repeat (first | (with_reducible first | exact HB.out | apply bA | apply bN | apply bD) | exact HB.out)⟩)
  rw [if_pos c7] at H; have c7b0 : (t694 != t698) = true := c7; (try (have c7b1 : decide (t694 = t698) = false := by simpa using c7)); (try (have c7b2 : (t694 == t698) = false := by simpa using c7)); (try (have c7b3 : ¬ (t694 = t698) := by simpa using c7)); clear c7; obtain rfl := Option.some.inj H; go_enter Try.func9, Try.ntmps9
  go_wp2_with (first | ((with_reducible refine gate_callee (f := 40) rfl ?_); refine goesL_ (some 14) rfl rfl Try.func40 (by kernel_rfl) rfl #[.slice A0 l0.length c0] rfl (by (try simp only [Y1, Y2, Y3]); first | done | rfl | (simp only [Y4, Y5]; rfl)) ?_; (with_reducible refine (laws_big.calls _ _ l0 false _ ?side1 ?side2 A2.out).mono ?_); (case side1 => repeat (first | exact HR0.out | (with_reducible first | refine cA ?_ _ | refine cN ?_ _ | refine cD ?_))); (case side2 => exact HC0.out); rintro e w' ⟨rfl, ⟨nd, rfl⟩⟩; refine ⟨_, rfl, ?_⟩) | ((with_reducible refine gate_callee (f := 45) rfl ?_); refine goesL_ (some 16) rfl rfl Try.func45 (by kernel_rfl) rfl #[.slice A0 l0.length c0] rfl (by (try simp only [Y1, Y2, Y3]); first | done | rfl | (simp only [Y4, Y5]; rfl)) ?_; (with_reducible refine (spec_DrawPairRound.calls k _ _ l0 t690 _ ?side1 ?side2 A4.out).mono ?_); (case side1 => repeat (first | exact HR0.out | (with_reducible first | refine cA ?_ _ | refine cN ?_ _ | refine cD ?_))); (case side2 => exact HC0.out); rintro e w8 ⟨v691, rfl, ho0, hb⟩; refine ⟨_, rfl, ?_⟩; replace HO692 := am (Kd.S_lower ho0 (below_size (by repeat (first | (with_reducible first | exact HB.out | apply bA | apply bN | apply bD) | exact HB.out)))); replace HB := am (below_step (by repeat (first | (with_reducible first | exact HB.out | apply bA | apply bN | apply bD) | exact HB.out)) hb); (try clear hb); (try clear hb2); (try clear hk); (try clear hi); (try clear ho0); obtain ⟨Ao9, co9, eo9⟩ := Kd.S_slice HO692.out; subst eo9) | ((with_reducible refine gate_callee (f := 46) rfl ?_); refine goesL_ (some 19) rfl rfl Try.func46 (by kernel_rfl) rfl #[.slice Ao9 t690.length co9] rfl (by (try simp only [Y1, Y2, Y3]); first | done | rfl | (simp only [Y4, Y5]; rfl)) ?_; (with_reducible refine (impl_PairRound.calls k _ _ t690 t693 t694 _ ?side1 ?side2 A5.out).mono ?_); (case side1 => repeat (first | exact (Kd.S_reads' HO692.out).2.2 | (with_reducible first | refine cA ?_ _ | refine cN ?_ _ | refine cD ?_))); (case side2 => exact (Kd.S_reads' HO692.out).2.1); rintro e w10 ⟨v695, rfl, ho0, hb⟩; refine ⟨_, rfl, ?_⟩; replace HO692 := am (Kd.S_below (by (with_reducible repeat (first | apply sA | apply sN | apply sD)); exact HO692.out) hb); replace HO696 := am (Kd.R_lower ho0 (below_size (by repeat (first | (with_reducible first | exact HB.out | apply bA | apply bN | apply bD) | exact HB.out)))); replace HB := am (below_step (by repeat (first | (with_reducible first | exact HB.out | apply bA | apply bN | apply bD) | exact HB.out)) hb); (try clear hb); (try clear hb2); (try clear hk); (try clear hi); (try clear ho0)) | ((with_reducible refine gate_callee (f := 47) rfl ?_); refine goesL_ (some 24) rfl rfl Try.func47 (by kernel_rfl) rfl #[.slice Ao9 t690.length co9] rfl (by (try simp only [Y1, Y2, Y3]); first | done | rfl | (simp only [Y4, Y5]; rfl)) ?_; (with_reducible refine (spec_PairRound.calls k _ _ t690 t697 t698 _ ?side1 ?side2 A6.out).mono ?_); (case side1 => repeat (first | exact (Kd.S_reads' HO692.out).2.2 | (with_reducible first | refine cA ?_ _ | refine cN ?_ _ | refine cD ?_))); (case side2 => exact (Kd.S_reads' HO692.out).2.1); rintro e w11 ⟨v699, rfl, ho0, hb⟩; refine ⟨_, rfl, ?_⟩; have n0_ := am (Kd.S_below (by (with_reducible repeat (first | apply sA | apply sN | apply sD)); exact HO692.out) hb); have n1_ := am (Kd.R_elder' (by (with_reducible repeat (first | apply rA | apply rN | apply rD)); exact HO696.out) (Kd.R_base ho0) hb); have n2_ := am (Kd.R_lower (Kd.R_new' ho0 (Kd.R_lt (by (with_reducible repeat (first | apply rA | apply rN | apply rD)); exact HO696.out))) (below_size (by repeat (first | (with_reducible first | exact HB.out | apply bA | apply bN | apply bD) | exact HB.out)))); have n3_ := am (below_step (by repeat (first | (with_reducible first | exact HB.out | apply bA | apply bN | apply bD) | exact HB.out)) hb); clear HO692 HO696 HB; have HO692 := n0_; have HO696 := n1_; have HO700 := n2_; have HB := n3_; clear n0_ n1_ n2_ n3_; (try clear hb); (try clear hb2); (try clear hk); (try clear hi); (try clear ho0)))
  all_goals (go_ret; exact ⟨by first | rfl | (simp [*, errW_none, errW_some] <;> rfl), by repeat (first | (with_reducible first | exact HB.out | apply bA | apply bN | apply bD) | exact HB.out)⟩)
 subst c3; have H1 : (some true) = some r := by rw [if_pos rfl] at H; exact H
 clear H; have H := H1; clear H1; obtain rfl := Option.some.inj H; go_enter Try.func9, Try.ntmps9
 go_wp2_with (first | ((with_reducible refine gate_callee (f := 40) rfl ?_); refine goesL_ (some 14) rfl rfl Try.func40 (by kernel_rfl) rfl #[.slice A0 l0.length c0] rfl (by (try simp only [Y1, Y2, Y3]); first | done | rfl | (simp only [Y4, Y5]; rfl)) ?_; (with_reducible refine (laws_big.calls _ _ l0 true _ ?side1 ?side2 A2.out).mono ?_); (case side1 => repeat (first | exact HR0.out | (with_reducible first | refine cA ?_ _ | refine cN ?_ _ | refine cD ?_))); (case side2 => exact HC0.out); rintro e w' ⟨rfl, ⟨nd, rfl⟩⟩; refine ⟨_, rfl, ?_⟩))
 all_goals (go_ret; exact ⟨by first | rfl | (simp [*, errW_none, errW_some] <;> rfl), by repeat (first | (with_reducible first | exact HB.out | apply bA | apply bN | apply bD) | exact HB.out)⟩)
def laws_FnPairs.Pure : Prop := ∀ (l0 : List Int), l0.length ≤ maxLen → l0.length * 1 ≤ 140737488351232 → (∀ x ∈ l0, (Lit.int .u8 x).wf = true) → ∃ k, laws_FnPairs.f k l0 = some true
end Go.Proofs.Ytdlebbmmanjffaa.A
end
section
set_option linter.unusedVariables false
namespace Go.Proofs.Ytdlebbmmanjffaa.Open
open Go.ChangeShapes Go.WideShapes Go.Deep Go.RowKit Go.Proofs.YtdlebbmmanjffaaW.PrintWords
def Opn (P : Program) (t : TypeId) {α : Type} (d : Kd α) : Prop :=
  ∀ (H : Type) (enc : TypeId × Value → H) (w : World) (base : Nat) (spare : Nat → Bool) (held : Bool) (fuel : Nat) (cs : List Value) (y : DataW H × List MemPlace),
    DataW.trod enc P w base spare held fuel t cs = some y → ∃ x : α, d.K w x cs
def OpnL (P : Program) (fs : List Field) {α : Type} (d : Kd α) : Prop :=
  ∀ (H : Type) (enc : TypeId × Value → H) (w : World) (base : Nat) (spare : Nat → Bool) (held : Bool) (cs : List Value), cs.length = fs.length →
    (∀ (j : Nat) (f : Field) (c : Value), fs[j]? = some f → cs[j]? = some c → ∃ (n : Nat) (y : DataW H × List MemPlace), DataW.trod enc P w base spare held n f.type [c] = some y) → ∃ x : α, d.K w x cs
theorem opn_int {P : Program} {t : TypeId} {k : IntKind} (ht : P.underlying t = some (.int k)) : Opn P t (Kd.int k) := by
  intro H enc w base spare held fuel cs y h; obtain ⟨n, rfl, _⟩ := DataW.trod_int ht h; exact ⟨n, rfl⟩
theorem list_of {α : Type} {p : Nat → α → Prop} : ∀ n, (∀ i, i < n → ∃ x, p i x) → ∃ l : List α, l.length = n ∧ ∀ i x, l[i]? = some x → p i x
  | 0, _ => ⟨[], rfl, fun i x h => by simp at h⟩
  | n + 1, h => by
    obtain ⟨l, hl, hp⟩ := list_of n (fun i hi => h i (by omega)); obtain ⟨x, hx⟩ := h n (by omega); refine ⟨l ++ [x], by simp [hl], fun i y hy => ?_⟩; rcases Nat.lt_or_ge i l.length with hi | hi
    · rw [List.getElem?_append_left hi] at hy
      exact hp i y hy
    · have hi' : i = l.length := by
        have := (List.getElem?_eq_some_iff.1 hy).1; rw [List.length_append, List.length_singleton] at this; omega
      subst hi'; have : x = y := by simpa using hy
      subst this; rw [hl]; exact hx
theorem opn_slice {P : Program} {t e : TypeId} {α : Type} {d : Kd α} (ht : P.underlying t = some (.slice e)) (hC : P.cellsOf e = d.sz) (he : Opn P e d) : Opn P t (Kd.slice e d) := by
  intro H enc w base spare held fuel cs y h; rcases open_slice ht h with ⟨rfl, _⟩ | ⟨a, len, cap, m, n, D, Pl, rfl, hb, hl, hm, hmm, hx, hi⟩
  · exact ⟨[], none, 0, rfl, Nat.le_refl _, rfl, by simp, fun h => absurd h (by simp)⟩
  · have hlm : len ≤ m := by rw [hmm]; split <;> omega
    obtain ⟨xs, hxl, hp⟩ := list_of (p := fun i x => ∃ cs', w.cells? base (a.add (i * P.cellsOf e)) (P.cellsOf e) = some cs' ∧ d.K w x cs') len (fun i hil => by
      obtain ⟨cs', h1, h2⟩ := hi i (by omega); obtain ⟨x, hx⟩ := he H enc w base spare held n cs' _ h2; exact ⟨x, cs', h1, hx⟩)
    refine ⟨xs, some a, cap, by rw [hxl], by omega, rfl, by unfold maxLen at hm; omega, fun _ => ⟨a, rfl, fun j p hj => ?_⟩⟩; obtain ⟨cs', hc, hk⟩ := hp j p hj; obtain ⟨_, hcl, hat⟩ := World.cells?_some hc; refine ⟨cs', d.K_len hk, hk, fun i u hu => ?_⟩; have hil : i < cs'.length := (List.getElem?_eq_some_iff.1 hu).1; have := hat i (by omega); rw [Go.Deep.add_add, hC] at this; rw [this]; exact hu
theorem opened {H : Type} {enc : TypeId × Value → H} {P : Program} {W : World} {base : Nat} {spare : Nat → Bool} {held : Bool} {t e : TypeId} {α : Type} {d : Kd α} (h : Opn P t (Kd.slice e d)) {a : Option Addr} {len cap : Nat} {dd : DataW H} {ps : List MemPlace}
    (ht : DataW.Trod enc P W base spare held t (.slice a len cap) dd ps) : ∃ l : List α, l.length = len ∧ l.length ≤ cap ∧ d.C W a l.length l := by
  obtain ⟨fuel, hf⟩ := ht; obtain ⟨l, A, c, he, hl, hc⟩ := h H enc W base spare held fuel _ _ hf; simp [Value.cells] at he
  obtain ⟨rfl, rfl, rfl⟩ := he; exact ⟨l, rfl, hl, hc⟩
end Go.Proofs.Ytdlebbmmanjffaa.Open
end
section
set_option linter.unusedVariables false
set_option linter.unusedSimpArgs false
namespace Go.Proofs.Ytdlebbmmanjffaa.L
open Go Go.RowKit Go.Proofs.Ytdlebbmmanjffaa.A Go.Proofs.YtdlebbmmanjffaaW.PrintWords
theorem sAreTeams_ev (l : List Tm) (hs : Small l) : Ev (fun k => spec_AreTeams.f k l) (areT l) := by
  unfold spec_AreTeams.f
  exact Ev.pos (of_small hs) (Ev.now _)
theorem iAreTeams_ev (l : List Tm) (hs : Small l) : Ev (fun k => impl_AreTeams.f k l) (areT l) := by
  unfold impl_AreTeams.f
  exact Ev.pos (of_small hs) (Ev.now _)
theorem Index_l0 (l : List Int) (x : Int) (hl : l.length ≤ 1099511627776) : ∀ (d n : Nat), n + d = l.length → Ev (fun k => slices_Index_int_int.l0 k l x (l.length : Int) (n : Int)) (if x ∈ l.drop n then ((n + (l.drop n).idxOf x : Nat) : Int) else -1) := by
  intro d; induction d with
  | zero =>
    intro n hd; refine Ev.step (fun k => slices_Index_int_int.l0.eq_2 ..) ?_; refine Ev.neg (by omega) (Ev.some_ ?_); rw [List.drop_eq_nil_of_le (by omega)]; simp
  | succ d ih =>
    intro n hd; refine Ev.step (fun k => slices_Index_int_int.l0.eq_2 ..) ?_; refine Ev.pos (by omega) (Ev.pos (by omega) (Ev.pos (by omega) ?_)); simp only [w64s (show n < 4611686018427387904 by omega), rd_at (show n < l.length by omega)]
    have h1 := ih (n + 1) (by omega); rw [List.drop_eq_getElem_cons (show n < l.length by omega)]; generalize l.drop (n + 1) = u at h1 ⊢; refine Ev.ite (fun h => Ev.some_ ?_) (fun h => Ev.cast h1 ?_)
    · simp [h]
    · have h' : ¬ l[n] = x := fun e => h e.symm
      simp only [List.mem_cons, h, false_or, List.idxOf_cons, beq_eq_false_iff_ne.2 h']
      split
      · simp; omega
      · rfl
def idx (l : List Int) (x : Int) : Int := if x ∈ l then (l.idxOf x : Int) else -1
theorem Index_ev (l : List Int) (x : Int) (hl : l.length ≤ 1099511627776) : Ev (fun k => slices_Index_int_int.f k l x) (idx l x) := by
  unfold slices_Index_int_int.f
  refine Ev.cast (Index_l0 l x hl l.length 0 (by omega)) ?_; simp [idx]
theorem Contains_ev (l : List Int) (x : Int) (hl : l.length ≤ 1099511627776) : Ev (fun k => slices_Contains_int_int.f k l x) (decide (x ∈ l)) := by
  unfold slices_Contains_int_int.f
  refine Ev.bind (Index_ev l x hl) (Ev.some_ ?_); unfold idx
  by_cases h : x ∈ l
  · simp [h]
  · simp [h]
theorem l4Has_l0 (l : List Int) (x : Int) (hl : l.length ≤ 1099511627776) : ∀ (d n : Nat), n + d = l.length → Ev (fun k => spec_l4Has.l0 k l x (n : Int)) (decide (x ∈ l.drop n)) := by
  intro d; induction d with
  | zero =>
    intro n hd; refine Ev.step (fun k => spec_l4Has.l0.eq_2 ..) ?_; refine Ev.neg (by omega) (Ev.some_ ?_); rw [List.drop_eq_nil_of_le (by omega)]; simp
  | succ d ih =>
    intro n hd; refine Ev.step (fun k => spec_l4Has.l0.eq_2 ..) ?_; refine Ev.pos (by omega) (Ev.pos (by omega) ?_); simp only [w64s (show n < 4611686018427387904 by omega), rd_at (show n < l.length by omega)]
    have h1 := ih (n + 1) (by omega); rw [List.drop_eq_getElem_cons (show n < l.length by omega)]; generalize l.drop (n + 1) = u at h1 ⊢; refine Ev.ite (fun h => Ev.some_ ?_) (fun h => Ev.cast h1 ?_)
    · simp [h]
    · have h' : ¬ x = l[n] := fun e => h e.symm
      simp [h']
theorem l4Has_ev (l : List Int) (x : Int) (hl : l.length ≤ 1099511627776) : Ev (fun k => spec_l4Has.f k l x) (decide (x ∈ l)) := by
  unfold spec_l4Has.f
  exact Ev.cast (l4Has_l0 l x hl l.length 0 (by omega)) (by simp)
def metT (l : List Tm) (a b : Int) : Bool := decide (0 ≤ findT l a ∧ b ∈ (rd_T78 l (findT l a)).f5)
theorem sHaveMet_ev (l : List Tm) (a b : Int) (hs : Small l) : Ev (fun k => spec_HaveMet.f k l a b) (metT l a b) := by
  unfold spec_HaveMet.f metT
  have hr := findT_range l a; refine Ev.bind (sFindTeam_ev l a hs.1) (Ev.ite (fun h => Ev.pos (by omega) (Ev.pos hr.2 (Ev.bind (l4Has_ev _ b (hs.2 _ (rdTm_mem (by omega) hr.2))) (Ev.some_ ?_)))) (fun h => Ev.some_ ?_))
  · have : 0 ≤ findT l a := by omega
    simp [this]
  · have : ¬ 0 ≤ findT l a := by omega
    simp [this]
theorem iHaveMet_ev (l : List Tm) (a b : Int) (hs : Small l) : Ev (fun k => impl_HaveMet.f k l a b) (metT l a b) := by
  unfold impl_HaveMet.f metT
  have hr := findT_range l a; refine Ev.bnd (iFindTeam_eq l a) (Ev.ite (fun h => Ev.pos (by omega) (Ev.pos hr.2 (Ev.bind (Contains_ev _ b (hs.2 _ (rdTm_mem (by omega) hr.2))) (Ev.some_ ?_)))) (fun h => Ev.some_ ?_))
  · have : 0 ≤ findT l a := by omega
    simp [this]
  · have : ¬ 0 ≤ findT l a := by omega
    simp [this]
def mayT (l : List Tm) (a b : Int) : Bool :=
  areT l && decide (0 ≤ findT l a) && decide (0 ≤ findT l b) && decide (findT l a ≠ findT l b) && decide ((rdT l (findT l a)).f1 ≠ (rdT l (findT l b)).f1) && !metT l a b
theorem mayT_iff {l : List Tm} {a b : Int} : mayT l a b = true ↔ areT l = true ∧ 0 ≤ findT l a ∧ 0 ≤ findT l b ∧ findT l a ≠ findT l b ∧ (rdT l (findT l a)).f1 ≠ (rdT l (findT l b)).f1 ∧ metT l a b = false := by
  simp only [mayT, Bool.and_eq_true, decide_eq_true_eq, Bool.not_eq_true', and_assoc]
theorem mayT_neg {l : List Tm} {a b : Int} (h : ¬ (areT l = true ∧ 0 ≤ findT l a ∧ 0 ≤ findT l b ∧ findT l a ≠ findT l b ∧ (rdT l (findT l a)).f1 ≠ (rdT l (findT l b)).f1 ∧ metT l a b = false)) : false = mayT l a b := by
  rw [← mayT_iff, Bool.not_eq_true] at h; exact h.symm
theorem sMayMeet_ev (l : List Tm) (a b : Int) (hs : Small l) : Ev (fun k => spec_MayMeet.f k l a b) (mayT l a b) := by
  unfold spec_MayMeet.f
  have ha := findT_range l a; have hb := findT_range l b; refine Ev.bind (sFindTeam_ev l a hs.1) (Ev.bind (sFindTeam_ev l b hs.1) (Ev.bind (sAreTeams_ev l hs) ?_)); refine Ev.ite (fun h1 => ?_) (fun h1 => Ev.some_ (mayT_neg (fun h => h1 h.1))); refine Ev.ite (fun h2 => ?_) (fun h2 => Ev.some_ (mayT_neg (fun h => h2 h.2.1))); refine Ev.ite (fun h3 => ?_) (fun h3 => Ev.some_ (mayT_neg (fun h => h3 h.2.2.1))); refine Ev.ite (fun h4 => Ev.some_ (mayT_neg (fun h => h.2.2.2.1 h4))) (fun h4 => ?_); refine Ev.pos (by omega) (Ev.pos ha.2 (Ev.pos (by omega) (Ev.pos hb.2 ?_))); refine Ev.ite (fun h5 => Ev.some_ (mayT_neg (fun h => h.2.2.2.2.1 h5))) (fun h5 => ?_); refine Ev.bind (sHaveMet_ev l a b hs) (Ev.some_ ?_)
  cases h6 : metT l a b
  · exact (mayT_iff.2 ⟨h1, h2, h3, h4, h5, h6⟩).symm
  · exact mayT_neg (fun h => by simp [h6] at h)
theorem iMayMeet_ev (l : List Tm) (a b : Int) (hs : Small l) : Ev (fun k => impl_MayMeet.f k l a b) (mayT l a b) := by
  unfold impl_MayMeet.f
  have ha := findT_range l a; have hb := findT_range l b; refine Ev.bnd (iFindTeam_eq l a) (Ev.bnd (iFindTeam_eq l b) (Ev.bind (iAreTeams_ev l hs) ?_)); refine Ev.ite (fun h1 => ?_) (fun h1 => Ev.some_ (mayT_neg (fun h => h1 h.1))); refine Ev.ite (fun h2 => ?_) (fun h2 => Ev.some_ (mayT_neg (fun h => h2 h.2.1))); refine Ev.ite (fun h3 => ?_) (fun h3 => Ev.some_ (mayT_neg (fun h => h3 h.2.2.1))); refine Ev.ite (fun h4 => Ev.some_ (mayT_neg (fun h => h.2.2.2.1 h4))) (fun h4 => ?_); refine Ev.pos (by omega) (Ev.pos ha.2 (Ev.pos (by omega) (Ev.pos hb.2 ?_))); refine Ev.ite (fun h5 => Ev.some_ (mayT_neg (fun h => h.2.2.2.2.1 h5))) (fun h5 => ?_); refine Ev.bind (iHaveMet_ev l a b hs) (Ev.some_ ?_)
  cases h6 : metT l a b
  · exact (mayT_iff.2 ⟨h1, h2, h3, h4, h5, h6⟩).symm
  · exact mayT_neg (fun h => by simp [h6] at h)
theorem befB_iff {u v : Tm} : befB u v = true ↔ v.f2 < u.f2 ∨ u.f2 = v.f2 ∧ (v.f3 < u.f3 ∨ u.f3 = v.f3 ∧ u.f0 < v.f0) := befK_iff (u := keyS u) (v := keyS v)
theorem bef_asymm {u v : Tm} (h : befB u v = true) : befB v u = false := by
  rw [Bool.eq_false_iff]; intro k; rw [befB_iff] at h k; omega
theorem bef_total {u v : Tm} (hn : u.f0 ≠ v.f0) (h : befB u v = false) : befB v u = true := by
  rw [Bool.eq_false_iff] at h; rw [befB_iff]; rw [Ne, befB_iff] at h; omega
theorem sBefore_eq (u v : Tm) : spec_l19Before.f u.f0 u.f1 u.f2 u.f3 u.f4 u.f5 v.f0 v.f1 v.f2 v.f3 v.f4 v.f5 = some (befB u v) := by
  unfold spec_l19Before.f
  repeat' split
  all_goals (refine congrArg some ?_; rw [Bool.eq_iff_iff, befB_iff]; simp; omega)
theorem tlT_all {l : List Tm} : ∀ (d n : Nat), tlT l d n = true → (∀ i : Nat, n ≤ i → i < n + d → okT l i = true) ∧ l.length ≤ 10
  | 0, n, h => ⟨fun i h1 h2 => by omega, of_decide_eq_true h⟩
  | d + 1, n, h => by
    simp only [tlT, Bool.and_eq_true] at h
    obtain ⟨h1, h2⟩ := tlT_all d (n + 1) h.2; refine ⟨fun i hi hd => ?_, h2⟩; by_cases e : i = n
    · rw [e]; exact h.1
    · exact h1 i (by omega) (by omega)
theorem areT_len {l : List Tm} (h : areT l = true) : l.length ≤ 10 := (tlT_all _ _ h).2
theorem areT_row {l : List Tm} (h : areT l = true) (i : Nat) (hi : i < l.length) : okT l i = true := (tlT_all _ _ h).1 i (by omega) (by omega)
theorem areT_asc {l : List Tm} (h : areT l = true) : ascT l (l.length - 1) := by
  intro i hi; have h1 := areT_row h (i + 1) (by omega); simp only [okT, rowT, Bool.and_eq_true, decide_eq_true_eq] at h1
  have h2 := h1.1.2; have e : ((i + 1 : Nat) : Int) - 1 = (i : Int) := by omega
  rw [e] at h2; omega
theorem areT_lt {l : List Tm} (h : areT l = true) : (l.map (fun t => t.f0)).Pairwise (· < ·) := by
  rw [List.pairwise_iff_getElem]; intro i j hi hj hij; simp only [List.length_map] at hi hj
  have := ascT_lt (areT_asc h) j i hij (by omega); simp only [rdT, rdTm hi, rdTm hj] at this
  simpa using this
theorem areT_nodup {l : List Tm} (h : areT l = true) : (l.map (fun t => t.f0)).Nodup := (areT_lt h).imp (fun h => by omega)
theorem ordT_perm (l : List Tm) : (ordT l).Perm l := List.mergeSort_perm _ _
theorem ordT_sorted (l : List Tm) : (ordT l).Pairwise (fun u v => befB v u = false) := by
  have := ordT_sortedK l; rw [List.pairwise_map] at this; exact this
theorem bef_pos {l : List Tm} (hn : (l.map (fun t => t.f0)).Nodup) {u v : Tm} (hu : u ∈ l) (hv : v ∈ l) (hne : u.f0 ≠ v.f0) : (((ordT l).map (fun t => t.f0)).idxOf u.f0 < ((ordT l).map (fun t => t.f0)).idxOf v.f0) ↔ befB u v = true := by
  have hn' : ((ordT l).map (fun t => t.f0)).Nodup := ((ordT_perm l).map _).nodup_iff.2 hn; obtain ⟨i, hi, eu⟩ := List.mem_iff_getElem.1 ((ordT_perm l).mem_iff.2 hu); obtain ⟨j, hj, ev⟩ := List.mem_iff_getElem.1 ((ordT_perm l).mem_iff.2 hv); have e1 : ((ordT l).map (fun t => t.f0)).idxOf u.f0 = i := by
    have := List.Nodup.idxOf_getElem hn' i (by simpa using hi); simpa [eu] using this
  have e2 : ((ordT l).map (fun t => t.f0)).idxOf v.f0 = j := by
    have := List.Nodup.idxOf_getElem hn' j (by simpa using hj); simpa [ev] using this
  rw [e1, e2]; have hp := List.pairwise_iff_getElem.1 (ordT_sorted l); constructor
  · intro hij
    have := hp i j hi hj hij; rw [eu, ev] at this; exact bef_total (Ne.symm hne) this
  · intro hb
    rcases Nat.lt_trichotomy i j with h | h | h
    · exact h
    · subst h
      exact absurd (by rw [← eu, ← ev]) hne
    · have := hp j i hj hi h
      rw [eu, ev] at this; rw [this] at hb
      cases hb
end Go.Proofs.Ytdlebbmmanjffaa.L
end
section
set_option linter.unusedVariables false
set_option linter.unusedSimpArgs false
namespace Go.Proofs.Ytdlebbmmanjffaa.L
open Go
theorem perm_of_sub : ∀ (r l : List Int), r.Nodup → (∀ x ∈ r, x ∈ l) → l.length ≤ r.length → r.Perm l
  | [], l, _, _, h => by
    obtain rfl : l = [] := List.eq_nil_of_length_eq_zero (by simpa using h); exact List.Perm.refl _
  | x :: r, l, hn, hs, h => by
    have hx : x ∈ l := hs x (by simp); have hp := List.perm_cons_erase hx; have hn' := List.nodup_cons.1 hn; have h1 : (l.erase x).length = l.length - 1 := List.length_erase_of_mem hx; refine (List.Perm.cons x (perm_of_sub r (l.erase x) hn'.2 (fun y hy => ?_) ?_)).trans hp.symm
    · have : y ≠ x := fun e => hn'.1 (e ▸ hy)
      exact (List.mem_erase_of_ne this).2 (hs y (by simp [hy]))
    · simp only [List.length_cons] at h
      omega
end Go.Proofs.Ytdlebbmmanjffaa.L
end
section
set_option linter.unusedVariables false
set_option linter.unusedSimpArgs false
namespace Go.Proofs.Ytdlebbmmanjffaa.L
open Go Go.RowKit Go.Proofs.Ytdlebbmmanjffaa.A Go.Proofs.YtdlebbmmanjffaaW.PrintWords
abbrev Pr := S48
theorem rdPair {l : List S48} {n : Nat} (h : n < l.length) : rd_T48 l (n : Int) = l[n] := by
  simp [rd_T48, h]
def sides : List Pr → List Int
  | [] => []
  | p :: r => p.f0 :: p.f1 :: sides r
theorem sides_length : ∀ r : List Pr, (sides r).length = 2 * r.length
  | [] => rfl
  | p :: r => by simp only [sides, List.length_cons, sides_length r]; omega
theorem sides_append : ∀ (a b : List Pr), sides (a ++ b) = sides a ++ sides b
  | [], b => rfl
  | p :: a, b => by simp only [List.cons_append, sides, sides_append a b]
theorem sides_take (r : List Pr) (n : Nat) (h : n < r.length) : sides (r.take (n + 1)) = sides (r.take n) ++ [r[n].f0, r[n].f1] := by
  rw [List.take_succ_eq_append_getElem h, sides_append]; rfl
def fresh (l : List Tm) (r : List Pr) : List Int → Bool
  | seen => match r with
    | [] => true
    | p :: r => mayT l p.f0 p.f1 && !decide (p.f0 ∈ seen) && !decide (p.f1 ∈ seen) && fresh l r (seen ++ [p.f0, p.f1])
theorem fresh_iff (l : List Tm) : ∀ (r : List Pr) (seen : List Int), fresh l r seen = true ↔ (∀ p ∈ r, mayT l p.f0 p.f1 = true) ∧ (sides r).Nodup ∧ ∀ x ∈ sides r, x ∉ seen
  | [], seen => by simp [fresh, sides]
  | p :: r, seen => by
    rw [fresh]; simp only [Bool.and_eq_true, Bool.not_eq_true', decide_eq_false_iff_not, fresh_iff l r, sides, List.nodup_cons, List.mem_cons, List.mem_append, List.not_mem_nil, or_false, forall_eq_or_imp, not_or]
    constructor
    · rintro ⟨⟨⟨h1, h2⟩, h3⟩, h4, h5, h6⟩
      have hm := (mayT_iff.1 h1).2.2.2.1; refine ⟨⟨h1, h4⟩, ⟨⟨fun e => hm (by rw [e]), fun hx => (h6 _ hx).2.1 rfl⟩, fun hx => (h6 _ hx).2.2 rfl, h5⟩, h2, h3, fun x hx => (h6 x hx).1⟩
    · rintro ⟨⟨h1, h4⟩, ⟨⟨h7, h8⟩, h9, h5⟩, h2, h3, h6⟩
      exact ⟨⟨⟨h1, h2⟩, h3⟩, h4, h5, fun x hx => ⟨h6 x hx, fun e => h8 (e ▸ hx), fun e => h9 (e ▸ hx)⟩⟩
def isRoundB (l : List Tm) (r : List Pr) : Bool := fresh l r [] && areT l && decide ((sides r).length = l.length)
theorem mem_sides : ∀ {r : List Pr} {x : Int}, x ∈ sides r → ∃ p ∈ r, x = p.f0 ∨ x = p.f1
  | [], x, h => by simp [sides] at h
  | p :: r, x, h => by
    simp only [sides, List.mem_cons] at h
    rcases h with rfl | rfl | h
    · exact ⟨p, by simp, .inl rfl⟩
    · exact ⟨p, by simp, .inr rfl⟩
    · obtain ⟨q, hq, e⟩ := mem_sides h
      exact ⟨q, by simp [hq], e⟩
theorem findT_mem {l : List Tm} {id : Int} (h : 0 ≤ findT l id) : id ∈ l.map (·.f0) := by
  have h1 := findT_range l id; exact List.mem_map.2 ⟨_, rdTm_mem h h1.2, findT_id h⟩
theorem sides_mem {l : List Tm} {r : List Pr} (h : ∀ p ∈ r, mayT l p.f0 p.f1 = true) : ∀ x ∈ sides r, x ∈ l.map (·.f0) := by
  intro x hx; obtain ⟨p, hp, e⟩ := mem_sides hx; have := mayT_iff.1 (h p hp); rcases e with rfl | rfl
  · exact findT_mem this.2.1
  · exact findT_mem this.2.2.1
theorem areT_nil : areT [] = true := rfl
theorem round_eq (l : List Tm) (r : List Pr) : ((r.all fun p => mayT l p.f0 p.f1) && l.all fun t => decide ((sides r).count t.f0 = 1)) = isRoundB l r := by
  rw [Bool.eq_iff_iff]; unfold isRoundB
  simp only [Bool.and_eq_true, List.all_eq_true, fresh_iff, decide_eq_true_eq]
  constructor
  · rintro ⟨h1, h2⟩
    have ha : areT l = true := by
      cases r with
      | nil =>
        cases l with
        | nil => exact areT_nil
        | cons t l => have := h2 t (by simp); simp [sides] at this
      | cons p r => exact (mayT_iff.1 (h1 p (by simp))).1
    have hn := areT_nodup ha; have hsub := sides_mem h1; have hsn : (sides r).Nodup := by
      rw [List.nodup_iff_count]; intro x; by_cases hx : x ∈ sides r
      · obtain ⟨t, ht, rfl⟩ := List.mem_map.1 (hsub x hx)
        exact Nat.le_of_eq (h2 t ht)
      · rw [List.count_eq_zero_of_not_mem hx]
        omega
    have hp : (sides r).Perm (l.map (·.f0)) := by
      rw [List.perm_ext_iff_of_nodup hsn hn]; intro x; refine ⟨hsub x, fun hx => ?_⟩; obtain ⟨t, ht, rfl⟩ := List.mem_map.1 hx; exact List.count_pos_iff.1 (by rw [h2 t ht]; omega)
    exact ⟨⟨⟨h1, hsn, fun x _ => List.not_mem_nil⟩, ha⟩, by rw [hp.length_eq, List.length_map]⟩
  · rintro ⟨⟨⟨h1, hsn, _⟩, ha⟩, hlen⟩
    have hn := areT_nodup ha; have hp := perm_of_sub _ _ hsn (sides_mem h1) (by rw [List.length_map]; omega); refine ⟨h1, fun t ht => ?_⟩; rw [hp.count_eq]; have h3 := List.nodup_iff_count.1 hn t.f0; have h4 := List.count_pos_iff.2 (List.mem_map.2 ⟨t, ht, rfl⟩ : t.f0 ∈ l.map (·.f0)); omega
theorem bef_neg {x y u : K3} (h1 : befK x y = false) (h2 : befK y u = false) : befK x u = false := by
  rw [Bool.eq_false_iff, Ne, befK_iff] at *; omega
theorem bef_asym {x y : K3} (h : befK x y = true) : befK y x = false := by
  rw [befK_iff] at h; rw [Bool.eq_false_iff, Ne, befK_iff]; omega
theorem insKP_le (x : K3) (ys : List K3) : ∀ k, insKP x ys k ≤ k
  | 0 => Nat.le_refl _
  | k + 1 => by
    rw [insKP]; split
    · have := insKP_le x ys k; omega
    · exact Nat.le_refl _
theorem insKP_above (x : K3) (ys : List K3) : ∀ k j : Nat, insKP x ys k ≤ j → j < k → befK x (ys.getD j default) = true
  | 0, j, _, h => by omega
  | k + 1, j, h1, h2 => by
    rw [insKP] at h1; by_cases hb : befK x (ys.getD k default) = true
    · rw [if_pos hb] at h1
      by_cases e : j = k
      · subst e
        exact hb
      · exact insKP_above x ys k j h1 (by omega)
    · rw [if_neg hb] at h1
      omega
theorem insKP_below (x : K3) (ys : List K3) : ∀ k : Nat, 0 < insKP x ys k → befK x (ys.getD (insKP x ys k - 1) default) = false
  | 0, h => by simp [insKP] at h
  | k + 1, h => by
    rw [insKP] at h ⊢; by_cases hb : befK x (ys.getD k default) = true
    · rw [if_pos hb] at h ⊢
      exact insKP_below x ys k h
    · rw [if_neg hb] at h ⊢
      rw [Nat.add_sub_cancel]; exact Bool.eq_false_iff.mpr hb
theorem getD_at {ys : List K3} {j : Nat} (h : j < ys.length) : ys.getD j default = ys[j] := by
  rw [List.getD_eq_getElem?_getD, List.getElem?_eq_getElem h]; rfl
abbrev SrtK (ys : List K3) : Prop := ys.Pairwise (fun u v => befK v u = false)
theorem insKK_sorted {ys : List K3} {x : K3} (h : SrtK ys) : SrtK (insKK ys x) := by
  have hp := insKP_le x ys ys.length; have habove := fun j => insKP_above x ys ys.length j; have hbelow := insKP_below x ys ys.length; unfold insKK
  generalize insKP x ys ys.length = p at hp habove hbelow ⊢; have hg := List.pairwise_iff_getElem.1 h; unfold SrtK
  rw [List.append_assoc, List.pairwise_append]; refine ⟨h.sublist (List.take_sublist _ _), ?_, ?_⟩
  · rw [List.singleton_append, List.pairwise_cons]
    refine ⟨fun v hv => ?_, h.sublist (List.drop_sublist _ _)⟩; obtain ⟨j, hj, rfl⟩ := List.mem_iff_getElem.1 hv; have hj2 : p + j < ys.length := by rw [List.length_drop] at hj; omega
    rw [List.getElem_drop]; have := habove (p + j) (by omega) hj2; rw [getD_at hj2] at this; exact bef_asym this
  · intro u hu v hv
    obtain ⟨j, hj, rfl⟩ := List.mem_iff_getElem.1 hu; have hj1 : j < p := by rw [List.length_take] at hj; omega
    have hj2 : j < ys.length := by omega
    rw [List.getElem_take]; rcases List.mem_append.1 hv with hv | hv
    · rw [List.mem_singleton] at hv
      subst hv; have hb := hbelow (by omega); have hp1 : p - 1 < ys.length := by omega
      rw [getD_at hp1] at hb; by_cases e : j = p - 1
      · subst e
        exact hb
      · exact bef_neg hb (hg j (p - 1) hj2 hp1 (by omega))
    · obtain ⟨i, hi, rfl⟩ := List.mem_iff_getElem.1 hv
      rw [List.length_drop] at hi; rw [List.getElem_drop]; exact hg j (p + i) hj2 (by omega) (by omega)
theorem insKK_perm (ys : List K3) (x : K3) : (insKK ys x).Perm (x :: ys) := by
  unfold insKK
  rw [List.append_assoc, List.singleton_append]; refine List.perm_middle.trans ?_; rw [List.take_append_drop]
theorem fold_sorted : ∀ (ks ys : List K3), SrtK ys → SrtK (ks.foldl insKK ys)
  | [], ys, h => h
  | k :: ks, ys, h => fold_sorted ks (insKK ys k) (insKK_sorted h)
theorem fold_perm : ∀ (ks ys : List K3), (ks.foldl insKK ys).Perm (ks ++ ys)
  | [], ys => List.Perm.refl _
  | k :: ks, ys => by
    rw [List.foldl_cons]; refine (fold_perm ks (insKK ys k)).trans ?_; refine ((insKK_perm ys k).append_left ks).trans ?_; exact List.perm_middle
theorem areT_ten {l : List Tm} (h : areT l = true) : l.length ≤ 10 := by
  by_cases h10 : l.length ≤ 10
  · exact h10
  · rw [areT_big h10] at h
    cases h
def standT (l : List Tm) : List Int := if areT l = true then (ordT l).map (fun t => t.f0) else []
theorem iStanding_ev (l : List Tm) (hs : Small l) : Ev (fun k => impl_Standing.f k l) (standT l) := by
  unfold impl_Standing.f standT
  refine Ev.bind (iAreTeams_ev l hs) ?_; by_cases h : areT l = true
  · exact Ev.cast (Ev.pos h (Ev.pos (by have := areT_ten h; omega) (Ev.now _))) (if_pos h).symm
  · exact Ev.cast (Ev.neg h (Ev.now _)) (if_neg h).symm
theorem sStanding_ev (l : List Tm) (hs : Small l) : Ev (fun k => spec_Standing.f k l) (standT l) := by
  unfold spec_Standing.f standT
  refine Ev.bind (sAreTeams_ev l hs) ?_; by_cases h : areT l = true
  · refine Ev.cast (Ev.pos h (Ev.pos (by have := areT_ten h; omega) (Ev.now _))) ?_
    rw [if_pos h]; have hp : ((l.map keyS).foldl insKK []).Perm ((ordT l).map keyS) := by
      refine (fold_perm (l.map keyS) []).trans ?_; rw [List.append_nil]; exact ((List.mergeSort_perm _ _).symm).map _
    rw [sorted_one hp (fold_sorted _ [] List.Pairwise.nil) (ordT_sortedK l), List.map_map]; rfl
  · exact Ev.cast (Ev.neg h (Ev.now _)) (if_neg h).symm
def sideT (l : List Tm) (a b : Int) : Int × Int :=
  if areT l = true ∧ 0 ≤ findT l a ∧ 0 ≤ findT l b ∧ findT l a ≠ findT l b then
    (if (rd_T78 l (findT l a)).f4 < (rd_T78 l (findT l b)).f4 ∨ (rd_T78 l (findT l a)).f4 = (rd_T78 l (findT l b)).f4 ∧ befB (rd_T78 l (findT l a)) (rd_T78 l (findT l b)) = true then (a, b) else (b, a))
  else (0, 0)
theorem ids_ne {l : List Tm} {a b : Int} (h2 : 0 ≤ findT l a) (h3 : 0 ≤ findT l b) (h4 : findT l a ≠ findT l b) : a ≠ b := fun e => h4 (by rw [e])
theorem sSide_j0 (l : List Tm) (a b : Int) (h1 : areT l = true) (h2 : 0 ≤ findT l a) (h3 : 0 ≤ findT l b) (h4 : findT l a ≠ findT l b) : Ev (fun k => spec_SideFor.j0 k l a b (findT l a) (findT l b) false) (sideT l a b) := by
  have ha := findT_range l a; have hb := findT_range l b; have hne := ids_ne h2 h3 h4; have e1 : (rd_T78 l (findT l a)).f0 = a := findT_id h2; have e2 : (rd_T78 l (findT l b)).f0 = b := findT_id h3; have hsd : sideT l a b = (if (rd_T78 l (findT l a)).f4 < (rd_T78 l (findT l b)).f4 ∨ (rd_T78 l (findT l a)).f4 = (rd_T78 l (findT l b)).f4 ∧ befB (rd_T78 l (findT l a)) (rd_T78 l (findT l b)) = true then (a, b) else (b, a)) := if_pos ⟨h1, h2, h3, h4⟩; rw [hsd]; refine Ev.step (fun k => spec_SideFor.j0.eq_2 ..) (Ev.neg (by simp) (Ev.pos h3 (Ev.pos hb.2 (Ev.pos h2 (Ev.pos ha.2 ?_))))); refine Ev.ite (fun h5 => Ev.some_ ?_) (fun h5 => ?_)
  · rw [if_neg (by omega)]
  · refine Ev.ite (fun h6 => ?_) (fun h6 => Ev.some_ ?_)
    · refine Ev.bnd (sBefore_eq _ _) ?_
      refine Ev.ite (fun h7 => Ev.some_ ?_) (fun h7 => Ev.some_ ?_)
      · have := bef_asymm h7
        rw [if_neg (by rintro (h | ⟨_, h⟩); · omega
                       · rw [this] at h; cases h)]
      · have := bef_total (by rw [e1, e2]; exact hne.symm) (Bool.not_eq_true _ ▸ h7)
        rw [if_pos (.inr ⟨h6.symm, this⟩)]
    · rw [if_pos (.inl (by omega))]
theorem sSideFor_ev (l : List Tm) (a b : Int) (hs : Small l) : Ev (fun k => spec_SideFor.f k l a b) (sideT l a b) := by
  unfold spec_SideFor.f
  have hj : ∀ x y, Ev (fun k => spec_SideFor.j0 k l a b x y true) (0, 0) := fun x y => Ev.step (fun k => spec_SideFor.j0.eq_2 ..) (Ev.pos rfl (Ev.now _)); refine Ev.bind (sFindTeam_ev l a hs.1) (Ev.bind (sFindTeam_ev l b hs.1) (Ev.bind (sAreTeams_ev l hs) ?_)); refine Ev.ite (fun h1 => ?_) (fun h1 => Ev.cast (hj _ _) (if_neg (fun h => h1 h.1)).symm); refine Ev.ite (fun h2 => Ev.cast (hj _ _) (if_neg (fun h => by omega)).symm) (fun h2 => ?_); refine Ev.ite (fun h3 => Ev.cast (hj _ _) (if_neg (fun h => by omega)).symm) (fun h3 => ?_); by_cases h4 : findT l a = findT l b
  · simp only [h4, beq_self_eq_true]
    exact Ev.cast (hj _ _) (if_neg (fun h => h.2.2.2 h4)).symm
  · rw [show (findT l a == findT l b) = false from beq_false_of_ne h4]
    exact sSide_j0 l a b h1 (by omega) (by omega) h4
theorem iSide_j0 (l : List Tm) (a b : Int) (hs : Small l) (h1 : areT l = true) (h2 : 0 ≤ findT l a) (h3 : 0 ≤ findT l b) (h4 : findT l a ≠ findT l b) : Ev (fun k => impl_SideFor.j0 k l a b (findT l a) (findT l b) false) (sideT l a b) := by
  have ha := findT_range l a; have hb := findT_range l b; have hne := ids_ne h2 h3 h4; have e1 : (rd_T78 l (findT l a)).f0 = a := findT_id h2; have e2 : (rd_T78 l (findT l b)).f0 = b := findT_id h3; have hsd : sideT l a b = (if (rd_T78 l (findT l a)).f4 < (rd_T78 l (findT l b)).f4 ∨ (rd_T78 l (findT l a)).f4 = (rd_T78 l (findT l b)).f4 ∧ befB (rd_T78 l (findT l a)) (rd_T78 l (findT l b)) = true then (a, b) else (b, a)) := if_pos ⟨h1, h2, h3, h4⟩; rw [hsd]; have hst := iStanding_ev l hs; unfold standT at hst
  rw [if_pos h1] at hst; have hlen := areT_len h1; have hol : ((ordT l).map (fun t => t.f0)).length ≤ 1099511627776 := by rw [List.length_map, (ordT_perm l).length_eq]; omega
  refine Ev.step (fun k => impl_SideFor.j0.eq_2 ..) (Ev.neg (by simp) (Ev.pos h2 (Ev.pos ha.2 (Ev.pos h3 (Ev.pos hb.2 ?_))))); refine Ev.bind hst ?_; refine Ev.ite (fun h5 => Ev.some_ ?_) (fun h5 => ?_)
  · rw [if_pos (.inl h5)]
  · refine Ev.ite (fun h6 => ?_) (fun h6 => Ev.some_ ?_)
    · refine Ev.bind (Index_ev _ a hol) (Ev.bind (Index_ev _ b hol) ?_)
      have hp := bef_pos (areT_nodup h1) (rdTm_mem h2 ha.2) (rdTm_mem h3 hb.2) (by rw [show (rd_T78 l (findT l a)).f0 = a from e1, show (rd_T78 l (findT l b)).f0 = b from e2]; exact hne); rw [show (rd_T78 l (findT l a)).f0 = a from e1, show (rd_T78 l (findT l b)).f0 = b from e2] at hp; have hma : a ∈ (ordT l).map (fun t => t.f0) := List.mem_map.2 ⟨_, (ordT_perm l).mem_iff.2 (rdTm_mem h2 ha.2), e1⟩; have hmb : b ∈ (ordT l).map (fun t => t.f0) := List.mem_map.2 ⟨_, (ordT_perm l).mem_iff.2 (rdTm_mem h3 hb.2), e2⟩; simp only [idx, if_pos hma, if_pos hmb]
      refine Ev.ite (fun h7 => Ev.some_ ?_) (fun h7 => Ev.some_ ?_)
      · rw [if_pos (.inr ⟨h6, hp.1 (by omega)⟩)]
      · rw [if_neg (by rintro (h | ⟨_, h⟩); · omega
                       · exact h7 (by have := hp.2 h; omega))]
    · rw [if_neg (by rintro (h | ⟨h, _⟩) <;> omega)]
theorem iSideFor_ev (l : List Tm) (a b : Int) (hs : Small l) : Ev (fun k => impl_SideFor.f k l a b) (sideT l a b) := by
  unfold impl_SideFor.f
  have hj : ∀ x y, Ev (fun k => impl_SideFor.j0 k l a b x y true) (0, 0) := fun x y => Ev.step (fun k => impl_SideFor.j0.eq_2 ..) (Ev.pos rfl (Ev.now _)); refine Ev.bnd (iFindTeam_eq l a) (Ev.bnd (iFindTeam_eq l b) (Ev.bind (iAreTeams_ev l hs) ?_)); refine Ev.ite (fun h1 => ?_) (fun h1 => Ev.cast (hj _ _) (if_neg (fun h => h1 h.1)).symm); refine Ev.ite (fun h2 => Ev.cast (hj _ _) (if_neg (fun h => by omega)).symm) (fun h2 => ?_); refine Ev.ite (fun h3 => Ev.cast (hj _ _) (if_neg (fun h => by omega)).symm) (fun h3 => ?_); by_cases h4 : findT l a = findT l b
  · simp only [h4, beq_self_eq_true]
    exact Ev.cast (hj _ _) (if_neg (fun h => h.2.2.2 h4)).symm
  · rw [show (findT l a == findT l b) = false from beq_false_of_ne h4]
    exact iSide_j0 l a b hs h1 (by omega) (by omega) h4
def sideP (l : List Tm) (a b : Int) : Pr := ⟨(sideT l a b).1, (sideT l a b).2⟩
def pairL (l : List Tm) (g : List Int → List Pr × Bool) (x : Int) : List Int → List Int → List Pr × Bool
  | _, [] => ([], false)
  | pre, y :: ys => if mayT l x y = true then (if (g (pre ++ ys)).2 = true then (sideP l x y :: (g (pre ++ ys)).1, true) else pairL l g x (pre ++ [y]) ys) else pairL l g x (pre ++ [y]) ys
def pairR (l : List Tm) : Nat → List Int → List Pr × Bool
  | 0, _ => ([], true)
  | _ + 1, [] => ([], true)
  | n + 1, x :: r => pairL l (pairR l n) x [] r
def roundT (l : List Tm) : List Pr × Bool := if areT l = true ∧ l.length % 2 = 0 then pairR l l.length (standT l) else ([], false)
theorem metT_symm {l : List Tm} (h : areT l = true) {a b : Int} (ha : 0 ≤ findT l a) (hb : 0 ≤ findT l b) (hm : metT l a b = true) : metT l b a = true := by
  have h1 := of_decide_eq_true hm; have hr := findT_range l a; obtain ⟨m, hmn⟩ : ∃ m : Nat, findT l a = (m : Int) := ⟨(findT l a).toNat, by omega⟩; have hrow := areT_row h m (by omega); simp only [okT, Bool.and_eq_true, List.all_eq_true] at hrow
  have h2 := h1.2; rw [hmn] at h2; have h3 := of_decide_eq_true (hrow.2 b h2); have hid : (rdT l (m : Int)).f0 = a := by rw [← hmn]; exact findT_id ha
  rw [hid] at h3; have h4 := List.count_pos_iff.2 h2; refine decide_eq_true ⟨hb, List.count_pos_iff.1 ?_⟩; have h5 := h3.2.2; show 0 < List.count a (rdT l (findT l b)).f5
  have h6 : 0 < List.count b (rdT l (m : Int)).f5 := h4; omega
theorem mayT_symm (l : List Tm) (a b : Int) : mayT l a b = mayT l b a := by
  rw [Bool.eq_iff_iff, mayT_iff, mayT_iff]; constructor
  · rintro ⟨h1, h2, h3, h4, h5, h6⟩
    refine ⟨h1, h3, h2, h4.symm, h5.symm, ?_⟩; rw [Bool.eq_false_iff] at h6 ⊢; exact fun h => h6 (metT_symm h1 h3 h2 h)
  · rintro ⟨h1, h2, h3, h4, h5, h6⟩
    refine ⟨h1, h3, h2, h4.symm, h5.symm, ?_⟩; rw [Bool.eq_false_iff] at h6 ⊢; exact fun h => h6 (metT_symm h1 h3 h2 h)
theorem sideT_symm (l : List Tm) (a b : Int) : sideT l a b = sideT l b a := by
  by_cases h : areT l = true ∧ 0 ≤ findT l a ∧ 0 ≤ findT l b ∧ findT l a ≠ findT l b
  · obtain ⟨h1, h2, h3, h4⟩ := h
    have sa : sideT l a b = (if (rd_T78 l (findT l a)).f4 < (rd_T78 l (findT l b)).f4 ∨ (rd_T78 l (findT l a)).f4 = (rd_T78 l (findT l b)).f4 ∧ befB (rd_T78 l (findT l a)) (rd_T78 l (findT l b)) = true then (a, b) else (b, a)) := if_pos ⟨h1, h2, h3, h4⟩; have sb : sideT l b a = (if (rd_T78 l (findT l b)).f4 < (rd_T78 l (findT l a)).f4 ∨ (rd_T78 l (findT l b)).f4 = (rd_T78 l (findT l a)).f4 ∧ befB (rd_T78 l (findT l b)) (rd_T78 l (findT l a)) = true then (b, a) else (a, b)) := if_pos ⟨h1, h3, h2, h4.symm⟩; rw [sa, sb]; have hne := ids_ne h2 h3 h4; have e1 : (rd_T78 l (findT l a)).f0 = a := findT_id h2; have e2 : (rd_T78 l (findT l b)).f0 = b := findT_id h3; generalize rd_T78 l (findT l a) = u at e1 ⊢; generalize rd_T78 l (findT l b) = v at e2 ⊢; have hb : befB v u = !befB u v := by
      cases hc : befB u v with
      | true => exact bef_asymm hc
      | false => exact bef_total (by rw [e1, e2]; exact hne) hc
    have P : (u.f4 < v.f4 ∨ u.f4 = v.f4 ∧ befB u v = true) ↔ ¬ (v.f4 < u.f4 ∨ v.f4 = u.f4 ∧ befB v u = true) := by
      rw [hb]
      cases befB u v <;> simp <;> omega
    by_cases c : u.f4 < v.f4 ∨ u.f4 = v.f4 ∧ befB u v = true
    · rw [if_pos c, if_neg (P.1 c)]
    · rw [if_neg c, if_pos (Decidable.not_not.1 (fun k => c (P.2 k)))]
  · have sa : sideT l a b = (0, 0) := if_neg h
    have sb : sideT l b a = (0, 0) := if_neg (fun k => h ⟨k.1, k.2.2.1, k.2.1, k.2.2.2.symm⟩); rw [sa, sb]
theorem sideP_of {l : List Tm} {a b : Int} (h : mayT l a b = true) : (sideP l a b = ⟨a, b⟩ ∨ sideP l a b = ⟨b, a⟩) ∧ mayT l (sideP l a b).f0 (sideP l a b).f1 = true ∧ (rdT l (findT l (sideP l a b).f0)).f4 ≤ (rdT l (findT l (sideP l a b).f1)).f4 := by
  obtain ⟨h1, h2, h3, h4, h5, h6⟩ := mayT_iff.1 h; have hs : sideT l a b = (if (rd_T78 l (findT l a)).f4 < (rd_T78 l (findT l b)).f4 ∨ (rd_T78 l (findT l a)).f4 = (rd_T78 l (findT l b)).f4 ∧ befB (rd_T78 l (findT l a)) (rd_T78 l (findT l b)) = true then (a, b) else (b, a)) := if_pos ⟨h1, h2, h3, h4⟩; by_cases hc : (rd_T78 l (findT l a)).f4 < (rd_T78 l (findT l b)).f4 ∨ (rd_T78 l (findT l a)).f4 = (rd_T78 l (findT l b)).f4 ∧ befB (rd_T78 l (findT l a)) (rd_T78 l (findT l b)) = true
  · rw [if_pos hc] at hs
    have e : sideP l a b = ⟨a, b⟩ := by unfold sideP; rw [hs]
    rw [e]; refine ⟨.inl rfl, h, ?_⟩; show (rd_T78 l (findT l a)).f4 ≤ (rd_T78 l (findT l b)).f4
    omega
  · rw [if_neg hc] at hs
    have e : sideP l a b = ⟨b, a⟩ := by unfold sideP; rw [hs]
    rw [e]; refine ⟨.inr rfl, by rw [mayT_symm]; exact h, ?_⟩; show (rd_T78 l (findT l b)).f4 ≤ (rd_T78 l (findT l a)).f4
    omega
def GoodR (l : List Tm) (left : List Int) (z : List Pr × Bool) : Prop :=
  (z.2 = true → (sides z.1).Perm left ∧ ∀ p ∈ z.1, mayT l p.f0 p.f1 = true ∧ (rdT l (findT l p.f0)).f4 ≤ (rdT l (findT l p.f1)).f4) ∧ (z.2 = false → z.1 = [])
theorem pairL_good (l : List Tm) (g : List Int → List Pr × Bool) (x : Int) : ∀ (ys pre : List Int), (∀ z : List Int, z.length + 1 ≤ pre.length + ys.length → GoodR l z (g z)) → GoodR l (x :: (pre ++ ys)) (pairL l g x pre ys)
  | [], pre, hg => ⟨fun h => by simp [pairL] at h, fun _ => rfl⟩
  | y :: ys, pre, hg => by
    have hrest : GoodR l (x :: (pre ++ y :: ys)) (pairL l g x (pre ++ [y]) ys) := by
      have := pairL_good l g x ys (pre ++ [y]) (fun z hz => hg z (by simp at hz ⊢; omega)); simpa using this
    rw [pairL]; split
    · rename_i hm
      split
      · rename_i hz
        obtain ⟨h1, h2⟩ := hg (pre ++ ys) (by simp; omega); obtain ⟨hp, hq⟩ := h1 hz; obtain ⟨k1, k2, k3⟩ := sideP_of hm; refine ⟨fun _ => ⟨?_, fun p hp => ?_⟩, fun h => by simp at h⟩
        · show (sides (sideP l x y :: (g (pre ++ ys)).1)).Perm _
          have hxy : (x :: y :: (pre ++ ys)).Perm (x :: (pre ++ y :: ys)) := List.Perm.cons _ List.perm_middle.symm; rcases k1 with k1 | k1
          · rw [k1]
            exact (((hp.cons y).cons x)).trans hxy
          · rw [k1]
            exact ((((hp.cons x).cons y)).trans (List.Perm.swap _ _ _)).trans hxy
        · rcases List.mem_cons.1 hp with rfl | hp
          · exact ⟨k2, k3⟩
          · exact hq p hp
      · exact hrest
    · exact hrest
theorem pairR_good (l : List Tm) : ∀ (n : Nat) (left : List Int), left.length ≤ n → GoodR l left (pairR l n left)
  | 0, [], _ => ⟨fun _ => ⟨List.Perm.refl _, fun p hp => by simp [pairR] at hp⟩, fun h => by simp [pairR] at h⟩
  | 0, x :: r, h => by simp at h
  | n + 1, [], _ => ⟨fun _ => ⟨List.Perm.refl _, fun p hp => by simp [pairR] at hp⟩, fun h => by simp [pairR] at h⟩
  | n + 1, x :: r, h => by
    simp only [List.length_cons] at h
    exact pairL_good l (pairR l n) x r [] (fun z hz => pairR_good l n z (by simp at hz; omega))
theorem standT_perm {l : List Tm} (h : areT l = true) : (standT l).Perm (l.map (fun t => t.f0)) := by
  unfold standT
  rw [if_pos h]; exact (ordT_perm l).map _
theorem standT_length {l : List Tm} (h : areT l = true) : (standT l).length = l.length := by
  rw [(standT_perm h).length_eq, List.length_map]
theorem roundT_good (l : List Tm) : ((roundT l).2 = true → isRoundB l (roundT l).1 = true ∧ ∀ p ∈ (roundT l).1, mayT l p.f0 p.f1 = true ∧ (rdT l (findT l p.f0)).f4 ≤ (rdT l (findT l p.f1)).f4) ∧ ((roundT l).2 = false → (roundT l).1 = []) := by
  unfold roundT
  by_cases h : areT l = true ∧ l.length % 2 = 0
  · rw [if_pos h]
    obtain ⟨h1, h2⟩ := pairR_good l l.length (standT l) (by rw [standT_length h.1]; exact Nat.le_refl _); refine ⟨fun h3 => ?_, h2⟩; obtain ⟨hp, hq⟩ := h1 h3; have hp2 := hp.trans (standT_perm h.1); refine ⟨?_, hq⟩; unfold isRoundB
    simp only [Bool.and_eq_true, decide_eq_true_eq]
    refine ⟨⟨(fresh_iff l _ []).2 ⟨fun p hp => (hq p hp).1, hp2.nodup_iff.2 (areT_nodup h.1), fun x _ => List.not_mem_nil⟩, h.1⟩, ?_⟩; rw [hp2.length_eq, List.length_map]
  · rw [if_neg h]
    exact ⟨fun h => by simp at h, fun _ => rfl⟩
theorem roundT_len (l : List Tm) : (roundT l).1.length ≤ 10 := by
  obtain ⟨h1, h2⟩ := roundT_good l
  cases h : (roundT l).2 with
  | false => rw [h2 h]; simp
  | true =>
    have h3 := (h1 h).1; unfold isRoundB at h3
    simp only [Bool.and_eq_true, decide_eq_true_eq] at h3
    have h4 := areT_len h3.1.2; have h5 := sides_length (roundT l).1; omega
theorem rd_head (x : Int) (r : List Int) : rd (x :: r) 0 = x := by simp [rd]
theorem rd_tail (x : Int) (r : List Int) {m : Nat} (h : m < r.length) : rd (x :: r) ((m + 1 : Nat) : Int) = r[m] := by
  rw [rd_at (by first | (simp; done) | (simp; omega))]; rfl
theorem sPair_l0 (l : List Tm) (hs : Small l) (x : Int) (r : List Int) (g : List Int → List Pr × Bool) (hr : r.length ≤ 1048576) (ih : ∀ z : List Int, z.length + 1 ≤ r.length → Ev (fun k => spec_l20Search.f k l z) (g z)) (hg : ∀ z : List Int, z.length + 1 ≤ r.length → (g z).1.length ≤ z.length) :
    ∀ (d m : Nat), m + d = r.length → Ev (fun k => spec_l20Search.l0 k l (x :: r) ((m + 1 : Nat) : Int)) (pairL l g x (r.take m) (r.drop m)) := by
  intro d; induction d with
  | zero =>
    intro m hd; refine Ev.step (fun k => spec_l20Search.l0.eq_2 ..) (Ev.neg (by first | (simp; done) | (simp; omega)) (Ev.some_ ?_)); rw [List.drop_eq_nil_of_le (by omega)]; rfl
  | succ d ihd =>
    intro m hd; have hm : m < r.length := by omega
    have hrest := ihd (m + 1) (by omega); rw [take_snoc r m hm] at hrest; have hw : wrap64 (((m + 1 : Nat) : Int) + 1) = ((m + 1 + 1 : Nat) : Int) := w64s (by omega); have hz : (r.take m ++ r.drop (m + 1)).length + 1 ≤ r.length := by simp; omega
    rw [List.drop_eq_getElem_cons hm, pairL]; refine Ev.step (fun k => spec_l20Search.l0.eq_2 ..) (Ev.pos (by first | (simp; done) | (simp; omega)) (Ev.pos (by first | (simp; done) | (simp; omega)) (Ev.pos (by omega) ?_))); simp only [rd_head, rd_tail x r hm, hw, Int.toNat_natCast, List.take_succ_cons, List.drop_succ_cons, List.drop_zero, Option.bind_some, List.nil_append]
    refine Ev.bind (sMayMeet_ev l x r[m] hs) ?_; refine Ev.ite (fun h => ?_) (fun h => ?_)
    · rw [if_pos h]
      refine Ev.pos (by omega) (Ev.pos (by first | (simp; done) | (simp; omega)) (Ev.pos (by first | (simp; done) | (simp; omega)) (Ev.pos (by omega) (Ev.pos (by first | (simp; done) | (simp; omega)) (Ev.pos (by first | (simp; done) | (simp; omega)) ?_))))); have hlen := hg _ hz; refine Ev.bind (ih _ hz) (Ev.ite (fun h2 => ?_) (fun h2 => ?_))
      · rw [if_pos h2]
        refine Ev.bind (sSideFor_ev l x r[m] hs) (Ev.pos (by simp only [List.length_cons, List.length_nil]; omega) (Ev.now _))
      · rw [if_neg h2]
        exact hrest
    · rw [if_neg h]
      exact hrest
theorem pairL_len (l : List Tm) (g : List Int → List Pr × Bool) (x : Int) : ∀ (ys pre : List Int), (∀ z : List Int, z.length + 1 ≤ pre.length + ys.length → (g z).1.length ≤ z.length) → (pairL l g x pre ys).1.length ≤ pre.length + ys.length
  | [], pre, _ => by simp [pairL]
  | y :: ys, pre, hg => by
    have h1 := pairL_len l g x ys (pre ++ [y]) (fun z hz => hg z (by simp at hz ⊢; omega)); have h2 := hg (pre ++ ys) (by first | (simp; done) | (simp; omega)); simp only [List.length_append, List.length_cons, List.length_nil] at h1 h2 ⊢
    rw [pairL]; split
    · split
      · simp only [List.length_cons]; omega
      · omega
    · omega
theorem pairR_len (l : List Tm) : ∀ (n : Nat) (left : List Int), (pairR l n left).1.length ≤ left.length
  | 0, left => by simp [pairR]
  | n + 1, [] => by simp [pairR]
  | n + 1, x :: r => by
    have := pairL_len l (pairR l n) x r [] (fun z _ => pairR_len l n z); simp only [List.length_nil, List.length_cons] at this ⊢
    rw [pairR]; omega
theorem sPair_ev (l : List Tm) (hs : Small l) : ∀ (n : Nat) (left : List Int), left.length ≤ n → left.length ≤ 1048576 → Ev (fun k => spec_l20Search.f k l left) (pairR l n left)
  | 0, [], _, _ => Ev.step (fun k => spec_l20Search.f.eq_2 ..) (Ev.pos (by simp) (Ev.now _))
  | 0, x :: r, h, _ => by simp at h
  | n + 1, [], _, _ => Ev.step (fun k => spec_l20Search.f.eq_2 ..) (Ev.pos (by simp) (Ev.now _))
  | n + 1, x :: r, h, h2 => by
    simp only [List.length_cons] at h h2
    refine Ev.step (fun k => spec_l20Search.f.eq_2 ..) (Ev.neg (by first | (simp; done) | (simp; omega)) ?_); have := sPair_l0 l hs x r (pairR l n) (by omega) (fun z hz => sPair_ev l hs n z (by omega) (by omega)) (fun z _ => pairR_len l n z) r.length 0 (by omega); simpa [pairR] using this
theorem even_eq {l : List Tm} (h : l.length % 2 = 0) : (((l.length : Int) % 2) == 1) = false := by
  rw [beq_eq_false_iff_ne]; omega
theorem odd_eq {l : List Tm} (h : ¬ l.length % 2 = 0) : (((l.length : Int) % 2) == 1) = true := by
  rw [beq_iff_eq]; omega
theorem sPairRound_ev (l : List Tm) (hs : Small l) : Ev (fun k => spec_PairRound.f k l) (roundT l) := by
  unfold spec_PairRound.f roundT
  have hj : Ev (fun k => spec_PairRound.j0 k l true) ([], false) := Ev.step (fun k => spec_PairRound.j0.eq_2 ..) (Ev.pos rfl (Ev.now _)); refine Ev.bind (sAreTeams_ev l hs) (Ev.ite (fun h1 => ?_) (fun h1 => by rw [if_neg (fun h => h1 h.1)]; exact hj)); by_cases h2 : l.length % 2 = 0
  · rw [if_pos ⟨h1, h2⟩, even_eq h2]
    have h3 := standT_length h1; have h4 := areT_len h1; refine Ev.step (fun k => spec_PairRound.j0.eq_2 ..) (Ev.neg (by simp) (Ev.bind (sStanding_ev l hs) (Ev.bind (sPair_ev l hs l.length _ (by omega) (by omega)) (Ev.now _))))
  · rw [if_neg (fun h => h2 h.2), odd_eq h2]
    exact hj
theorem conc2 (x y : List Int) (hx : x.length ≤ 1099511627776) (hy : y.length ≤ 1099511627776) : Ev (fun k => slices_Concat_int_int.f k [x, y]) (x ++ y) := by
  unfold slices_Concat_int_int.f
  have e0 : rd_L1 [x, y] 0 = x := rfl; have e1 : rd_L1 [x, y] 1 = y := rfl; have w1 : wrap64 (0 + 1) = 1 := by unfold wrap64; omega
  have w2 : wrap64 (1 + 1) = 2 := by unfold wrap64; omega
  have wx : wrap64 (0 + (x.length : Int)) = (x.length : Int) := by unfold wrap64; omega
  have wy : wrap64 ((x.length : Int) + (y.length : Int)) = (x.length : Int) + (y.length : Int) := by unfold wrap64; omega
  refine Ev.step (fun k => slices_Concat_int_int.l0.eq_2 ..) (Ev.pos (by simp) (Ev.pos (by omega) (Ev.pos (by simp) ?_))); rw [e0, w1, wx]; refine Ev.neg (by omega) (Ev.step (fun k => slices_Concat_int_int.l0.eq_2 ..) (Ev.pos (by simp) (Ev.pos (by omega) (Ev.pos (by simp) ?_)))); rw [e1, w2, wy]; refine Ev.neg (by omega) (Ev.step (fun k => slices_Concat_int_int.l0.eq_2 ..) (Ev.neg (by simp) ?_)); refine Ev.bnd (a := []) (by unfold slices_Grow_int_int.f; exact if_pos ⟨rfl, by omega, by omega⟩) ?_; refine Ev.step (fun k => slices_Concat_int_int.l1.eq_2 ..) (Ev.pos (by simp) (Ev.pos (by omega) (Ev.pos (by simp) ?_))); rw [e0, w1]; refine Ev.pos (by simp; omega) (Ev.step (fun k => slices_Concat_int_int.l1.eq_2 ..) (Ev.pos (by simp) (Ev.pos (by omega) (Ev.pos (by simp) ?_)))); rw [e1, w2]; refine Ev.pos (by simp; omega) (Ev.step (fun k => slices_Concat_int_int.l1.eq_2 ..) (Ev.neg (by simp) (Ev.some_ ?_))); simp
def flat2 : List (Int × Int) → List Int
  | [] => []
  | p :: ps => p.1 :: p.2 :: flat2 ps
theorem iPair_l0 (l : List Tm) (hs : Small l) (x : Int) (r : List Int) (g : List Int → List Pr × Bool) (hr : r.length ≤ 1048576) (ih : ∀ z : List Int, z.length + 1 ≤ r.length → Ev (fun k => impl_paired.f k l z) (g z)) (hg : ∀ z : List Int, z.length + 1 ≤ r.length → (g z).1.length ≤ z.length) :
    ∀ (d m : Nat), m + d = r.length → Ev (fun k => impl_paired.l0 k l (x :: r) ((m + 1 : Nat) : Int)) (pairL l g x (r.take m) (r.drop m)) := by
  intro d; induction d with
  | zero =>
    intro m hd; refine Ev.step (fun k => impl_paired.l0.eq_2 ..) (Ev.neg (by first | (simp; done) | (simp; omega)) (Ev.some_ ?_)); rw [List.drop_eq_nil_of_le (by omega)]; rfl
  | succ d ihd =>
    intro m hd; have hm : m < r.length := by omega
    have hrest := ihd (m + 1) (by omega); rw [take_snoc r m hm] at hrest; have hw : wrap64 (((m + 1 : Nat) : Int) + 1) = ((m + 1 + 1 : Nat) : Int) := w64s (by omega); have hz : (r.take m ++ r.drop (m + 1)).length + 1 ≤ r.length := by simp; omega
    rw [List.drop_eq_getElem_cons hm, pairL]; refine Ev.step (fun k => impl_paired.l0.eq_2 ..) (Ev.pos (by first | (simp; done) | (simp; omega)) (Ev.pos (by first | (simp; done) | (simp; omega)) (Ev.pos (by omega) ?_))); simp only [rd_head, rd_tail x r hm, hw, Int.toNat_natCast, List.take_succ_cons, List.drop_succ_cons, List.drop_zero, Option.bind_some, List.nil_append]
    refine Ev.bind (iMayMeet_ev l x r[m] hs) ?_; refine Ev.ite (fun h => ?_) (fun h => ?_)
    · rw [if_pos h]
      refine Ev.pos (by omega) (Ev.pos (by first | (simp; done) | (simp; omega)) (Ev.pos (by omega) (Ev.pos (by first | (simp; done) | (simp; omega)) (Ev.bind (conc2 _ _ (by first | (simp; done) | (simp; omega)) (by first | (simp; done) | (simp; omega))) ?_)))); have hlen := hg _ hz; refine Ev.bind (ih _ hz) (Ev.ite (fun h2 => ?_) (fun h2 => ?_))
      · rw [if_pos h2]
        refine Ev.bind (iSideFor_ev l x r[m] hs) (Ev.pos (by simp only [List.length_cons, List.length_nil]; omega) (Ev.now _))
      · rw [if_neg h2]
        exact hrest
    · rw [if_neg h]
      exact hrest
theorem iPair_ev (l : List Tm) (hs : Small l) : ∀ (n : Nat) (left : List Int), left.length ≤ n → left.length ≤ 1048576 → Ev (fun k => impl_paired.f k l left) (pairR l n left)
  | 0, [], _, _ => Ev.step (fun k => impl_paired.f.eq_2 ..) (Ev.pos (by simp) (Ev.now _))
  | 0, x :: r, h, _ => by simp at h
  | n + 1, [], _, _ => Ev.step (fun k => impl_paired.f.eq_2 ..) (Ev.pos (by simp) (Ev.now _))
  | n + 1, x :: r, h, h2 => by
    simp only [List.length_cons] at h h2
    refine Ev.step (fun k => impl_paired.f.eq_2 ..) (Ev.neg (by first | (simp; done) | (simp; omega)) ?_); have := iPair_l0 l hs x r (pairR l n) (by omega) (fun z hz => iPair_ev l hs n z (by omega) (by omega)) (fun z _ => pairR_len l n z) r.length 0 (by omega); simpa [pairR] using this
theorem iPairRound_ev (l : List Tm) (hs : Small l) : Ev (fun k => impl_PairRound.f k l) (roundT l) := by
  unfold impl_PairRound.f roundT
  have hj : Ev (fun k => impl_PairRound.j0 k l true) ([], false) := Ev.step (fun k => impl_PairRound.j0.eq_2 ..) (Ev.pos rfl (Ev.now _)); refine Ev.bind (iAreTeams_ev l hs) (Ev.ite (fun h1 => ?_) (fun h1 => by rw [if_neg (fun h => h1 h.1)]; exact hj)); by_cases h2 : l.length % 2 = 0
  · rw [if_pos ⟨h1, h2⟩, even_eq h2]
    have h3 := standT_length h1; have h4 := areT_len h1; refine Ev.step (fun k => impl_PairRound.j0.eq_2 ..) (Ev.neg (by simp) (Ev.bind (iStanding_ev l hs) (Ev.bind (iPair_ev l hs l.length _ (by omega) (by omega)) (Ev.now _))))
  · rw [if_neg (fun h => h2 h.2), odd_eq h2]
    exact hj
theorem iRound_l1 (l : List Tm) (s : List Int) (hs : Small l) (hl : s.length ≤ 1099511627776) : ∀ (d n : Nat), n + d = l.length → Ev (fun k => impl_IsRound.l1 k s l (l.length : Int) (n : Int)) ((l.drop n).all fun t => decide (s.count t.f0 = 1)) := by
  have hlen := hs.1; intro d; induction d with
  | zero =>
    intro n hd; refine Ev.step (fun k => impl_IsRound.l1.eq_2 ..) (Ev.neg (by omega) (Ev.some_ ?_)); rw [List.drop_eq_nil_of_le (by omega)]; rfl
  | succ d ih =>
    intro n hd; have hn : n < l.length := by omega
    refine Ev.step (fun k => impl_IsRound.l1.eq_2 ..) (Ev.pos (by omega) (Ev.pos (by omega) (Ev.pos (by omega) ?_))); simp only [w64s (show n < 4611686018427387904 by omega), rdTm hn]
    rw [List.drop_eq_getElem_cons hn, List.all_cons]; refine Ev.bind (times_ev s _ hl) (Ev.ite (fun h => Ev.cast (ih (n + 1) (by omega)) ?_) (fun h => Ev.some_ ?_))
    · have : List.count l[n].f0 s = 1 := by omega
      simp [this]
    · have : ¬ List.count l[n].f0 s = 1 := by omega
      simp [this]
theorem iRound_l0 (l : List Tm) (r : List Pr) (hs : Small l) (hr : r.length ≤ 1048576) : ∀ (d n : Nat), n + d = r.length → Ev (fun k => impl_IsRound.l0 k l (sides (r.take n)) r (r.length : Int) (n : Int)) (((r.drop n).all fun p => mayT l p.f0 p.f1) && l.all fun t => decide ((sides r).count t.f0 = 1)) := by
  intro d; induction d with
  | zero =>
    intro n hd; refine Ev.step (fun k => impl_IsRound.l0.eq_2 ..) (Ev.neg (by omega) ?_); rw [List.drop_eq_nil_of_le (by omega), List.take_of_length_le (by omega)]; exact Ev.cast (iRound_l1 l (sides r) hs (by rw [sides_length]; omega) l.length 0 (by omega)) (by simp)
  | succ d ih =>
    intro n hd; have hn : n < r.length := by omega
    refine Ev.step (fun k => impl_IsRound.l0.eq_2 ..) (Ev.pos (by omega) (Ev.pos (by omega) (Ev.pos (by omega) ?_))); simp only [w64s (show n < 4611686018427387904 by omega), rdPair hn]
    rw [List.drop_eq_getElem_cons hn, List.all_cons]; have hlen : (sides (r.take n)).length ≤ 2097152 := by rw [sides_length, List.length_take]; omega
    refine Ev.bind (iMayMeet_ev l _ _ hs) ?_; refine Ev.ite (fun h1 => ?_) (fun h1 => Ev.some_ (by simp [h1])); refine Ev.bnd rfl (Ev.pos (by simp; omega) ?_); have h4 := ih (n + 1) (by omega); rw [sides_take r n hn] at h4; refine Ev.cast h4 ?_; simp only [h1, Bool.true_and]
theorem iIsRound_ev (l : List Tm) (r : List Pr) (hs : Small l) (hr : r.length ≤ 1048576) : Ev (fun k => impl_IsRound.f k l r) (isRoundB l r) := by
  unfold impl_IsRound.f
  exact Ev.cast (iRound_l0 l r hs hr r.length 0 (by omega)) (round_eq l r)
def gapP (l : List Tm) (p : S48) : Int :=
  if 0 ≤ findT l p.f0 ∧ 0 ≤ findT l p.f1 then mx (wrap64 ((rd_T78 l (findT l p.f0)).f4 - (rd_T78 l (findT l p.f1)).f4)) (wrap64 ((rd_T78 l (findT l p.f1)).f4 - (rd_T78 l (findT l p.f0)).f4)) else -9223372036854775808
def gapF (l : List Tm) (acc : Int) : List S48 → Int
  | [] => acc
  | p :: r => gapF l (if 0 ≤ findT l p.f0 ∧ 0 ≤ findT l p.f1 then mx acc (gapP l p) else acc) r
theorem mx_neg (acc x y : Int) : mx (mx acc (wrap64 (x - y))) (wrap64 (-(wrap64 (x - y)))) = mx acc (mx (wrap64 (x - y)) (wrap64 (y - x))) := by
  have e : wrap64 (-(wrap64 (x - y))) = wrap64 (y - x) := by
    unfold wrap64
    omega
  rw [e]; generalize wrap64 (x - y) = p; generalize wrap64 (y - x) = q; unfold mx
  repeat' split
  all_goals omega
theorem iSideGap_l0 (l : List Tm) (r : List S48) (hs : Small l) (hr : r.length ≤ 1099511627776) : ∀ (d n : Nat) (acc : Int), n + d = r.length → Ev (fun k => impl_SideGap.l0 k l acc r (r.length : Int) (n : Int)) (gapF l acc (r.drop n)) := by
  intro d; induction d with
  | zero =>
    intro n acc hd; refine Ev.step (fun k => impl_SideGap.l0.eq_2 ..) ?_; refine Ev.neg (by omega) (Ev.some_ ?_); rw [List.drop_eq_nil_of_le (by omega)]; rfl
  | succ d ih =>
    intro n acc hd; refine Ev.step (fun k => impl_SideGap.l0.eq_2 ..) ?_; refine Ev.pos (by omega) (Ev.pos (by omega) (Ev.pos (by omega) ?_)); simp only [rdPair (show n < r.length by omega), w64s (show n < 4611686018427387904 by omega)]
    have h1 := fun acc => ih (n + 1) acc (by omega); rw [List.drop_eq_getElem_cons (show n < r.length by omega)]; generalize r.drop (n + 1) = u at h1 ⊢; have r0 := findT_range l r[n].f0; have r1 := findT_range l r[n].f1; refine Ev.bnd (iFindTeam_eq l _) (Ev.bnd (iFindTeam_eq l _) (Ev.ite (fun h => Ev.ite (fun h2 => Ev.pos (by omega) (Ev.pos r0.2 (Ev.pos (by omega) (Ev.pos r1.2 (Ev.cast (h1 _) ?_))))) (fun h2 => Ev.cast (h1 _) ?_)) (fun h => Ev.cast (h1 _) ?_)))
    · have h3 : 0 ≤ findT l r[n].f0 ∧ 0 ≤ findT l r[n].f1 := ⟨by omega, by omega⟩
      rw [gapF, if_pos h3, gapP, if_pos h3, mx_neg]
    · rw [gapF, if_neg (by omega)]
    · rw [gapF, if_neg (by omega)]
theorem iSideGap_ev (l : List Tm) (r : List S48) (hs : Small l) (hr : r.length ≤ 1099511627776) : Ev (fun k => impl_SideGap.f k l r) (gapF l 0 r) := by
  unfold impl_SideGap.f
  exact Ev.cast (iSideGap_l0 l r hs hr r.length 0 0 (by omega)) (by simp)
theorem bits255 (x : Int) : 0 ≤ Go.bits .and .i64 x 255 ∧ Go.bits .and .i64 x 255 ≤ 255 := by
  have h : ((BitVec.ofInt 64 x) &&& (BitVec.ofInt 64 255)).toNat ≤ 255 := by
    rw [BitVec.toNat_and]; exact Nat.le_trans Nat.and_le_right (by decide)
  show 0 ≤ IntKind.i64.wrap (((BitVec.ofInt 64 x) &&& (BitVec.ofInt 64 255)).toNat : Int) ∧ IntKind.i64.wrap (((BitVec.ofInt 64 x) &&& (BitVec.ofInt 64 255)).toNat : Int) ≤ 255
  generalize ((BitVec.ofInt 64 x) &&& (BitVec.ofInt 64 255)).toNat = t at h ⊢; rw [IntKind.wrap_i64]; omega
def At (b : List Int) (i : Int) : Prop := b.length ≤ 1099511627776 ∧ 0 ≤ i ∧ i ≤ b.length
theorem Byte_eq (b : List Int) (i h : Int) (ha : At b i) : ∃ r i' h', spec_l1Byte.f b i h = some (r, i', h') ∧ 0 ≤ r ∧ r ≤ 255 ∧ At b i' := by
  unfold spec_l1Byte.f
  obtain ⟨hl, h0, h1⟩ := ha; by_cases hlt : i < (b.length : Int)
  · rw [if_pos hlt, if_pos h0, w64 (x := i + 1) (by omega) (by omega)]
    refine ⟨_, _, _, rfl, (bits255 _).1, (bits255 _).2, hl, by omega, by omega⟩
  · rw [if_neg hlt]
    exact ⟨_, _, _, rfl, (bits255 _).1, (bits255 _).2, hl, h0, h1⟩
theorem Below_eq (b : List Int) (i h n : Int) (ha : At b i) : ∃ r i' h', spec_l1Below.f b i h n = some (r, i', h') ∧ 0 ≤ r ∧ (0 < n → r < n) ∧ (n ≤ 0 → r = 0) ∧ At b i' := by
  unfold spec_l1Below.f
  by_cases h0 : n ≤ 0
  · rw [if_pos h0]
    exact ⟨_, _, _, rfl, by omega, by omega, fun _ => rfl, ha⟩
  · rw [if_neg h0]
    by_cases h1 : n ≤ 256
    · rw [if_pos h1]
      obtain ⟨r, i1, h2, e, hr0, hr1, ha1⟩ := Byte_eq b i h ha; rw [e]; simp only [Option.bind_some]
      rw [if_neg (by omega)]; refine ⟨_, _, _, rfl, ?_, fun _ => ?_, fun hn => absurd hn h0, ha1⟩
      · exact Int.tmod_nonneg _ hr0
      · exact Int.tmod_lt_of_pos _ (by omega)
    · rw [if_neg h1]
      obtain ⟨r, i1, h2, e, hr0, hr1, ha1⟩ := Byte_eq b i h ha; rw [e]; simp only [Option.bind_some]
      obtain ⟨r3, i3, h3, e3, hr30, hr31, ha3⟩ := Byte_eq b i1 h2 ha1; rw [e3]; simp only [Option.bind_some]
      obtain ⟨r4, i4, h4, e4, hr40, hr41, ha4⟩ := Byte_eq b i3 h3 ha3; rw [e4]; simp only [Option.bind_some]
      rw [if_neg (by omega)]; refine ⟨_, _, _, rfl, ?_, fun _ => ?_, fun hn => absurd hn h0, ha4⟩
      · refine Int.tmod_nonneg _ ?_
        rw [w64 (x := r * 65536) (by omega) (by omega), w64 (x := r3 * 256) (by omega) (by omega), w64 (x := r * 65536 + r3 * 256) (by omega) (by omega), w64 (by omega) (by omega)]; omega
      · exact Int.tmod_lt_of_pos _ (by omega)
theorem DInt_eq (b : List Int) (i h : Int) (l : List Int) (hl : 0 < l.length) (ha : At b i) : ∃ r i' h', spec_l1Int.f b i h l = some (r, i', h') ∧ r ∈ l ∧ At b i' := by
  unfold spec_l1Int.f
  obtain ⟨r, i1, h2, e, h0, h1, _, ha1⟩ := Below_eq b i h l.length ha; rw [e]; simp only [Option.bind_some]
  rw [if_pos h0, if_pos (h1 (by omega))]; refine ⟨_, _, _, rfl, ?_, ha1⟩; have hr := h1 (by omega); obtain ⟨m, rfl⟩ : ∃ m : Nat, r = m := ⟨r.toNat, by omega⟩; rw [rd_at (show m < l.length by omega)]; exact List.getElem_mem _
theorem New_l0 (b : List Int) (hl : b.length ≤ 1099511627776) : ∀ (d n : Nat) (h : Int), n + d = b.length → ∃ h', Ev (fun k => spec_l1New.l0 k b h (n : Int)) (b, 0, h') := by
  intro d; induction d with
  | zero =>
    intro n h hd; exact ⟨_, Ev.step (fun k => spec_l1New.l0.eq_2 ..) (Ev.neg (by omega) (Ev.now _))⟩
  | succ d ih =>
    intro n h hd; by_cases h4 : (n : Int) < 4000
    · obtain ⟨h', e⟩ := ih (n + 1) (Go.bits .and .i64 (wrap64 ((wrap64 ((wrap64 (h * 137)) + (wrap64 (rd b n)))) + 11)) 1073741823) (by omega)
      refine ⟨h', Ev.step (fun k => spec_l1New.l0.eq_2 ..) (Ev.pos (by omega) (Ev.pos h4 (Ev.pos (by omega) ?_)))⟩; simp only [w64s (show n < 4611686018427387904 by omega)]
      exact e
    · exact ⟨_, Ev.step (fun k => spec_l1New.l0.eq_2 ..) (Ev.pos (by omega) (Ev.neg h4 (Ev.now _)))⟩
theorem New_ev (b : List Int) (hl : b.length ≤ 1099511627776) : ∃ h, Ev (fun k => spec_l1New.f k b) (b, 0, h) := by
  unfold spec_l1New.f
  exact New_l0 b hl b.length 0 _ (by omega)
theorem big_eq (b : List Int) : laws_big.f b = some (decide ((b.length : Int) > 1048576)) := rfl
def addX (x : Tm) (b w p : Int) : Tm := ⟨x.f0, x.f1, if w = 1 then wrap64 (x.f2 + 1) else x.f2, wrap64 (x.f3 + p), wrap64 (x.f4 + 1), x.f5 ++ [b]⟩
def addY (y : Tm) (a w q : Int) : Tm := ⟨y.f0, y.f1, if w = 1 then y.f2 else wrap64 (y.f2 + 1), wrap64 (y.f3 + q), y.f4, y.f5 ++ [a]⟩
def addL (l : List Tm) (a b w p q : Int) : List Tm := (l.set (findT l a).toNat (addX (rdT l (findT l a)) b w p)).set (findT l b).toNat (addY (rdT l (findT l b)) a w q)
def addC (l : List Tm) (a b w p q : Int) : Prop := areT l = true ∧ 0 ≤ findT l a ∧ 0 ≤ findT l b ∧ findT l a ≠ findT l b ∧ inR w 1 2 = true ∧ inR p 0 1000 = true ∧ inR q 0 1000 = true
instance (l : List Tm) (a b w p q : Int) : Decidable (addC l a b w p q) := by unfold addC; infer_instance
def addT (l : List Tm) (a b w p q : Int) : List Tm × Bool := if addC l a b w p q then (if areT (addL l a b w p q) = true then (addL l a b w p q, true) else (l, false)) else (l, false)
theorem addL_len (l : List Tm) (a b w p q : Int) : (addL l a b w p q).length = l.length := by simp [addL]
theorem addT_len (l : List Tm) (a b w p q : Int) : (addT l a b w p q).1.length = l.length := by
  unfold addT
  split
  · split
    · exact addL_len _ _ _ _ _ _
    · rfl
  · rfl
theorem rd_set_ne {l : List Tm} {i j : Int} {v : Tm} (hi : 0 ≤ i) (hj : 0 ≤ j) (h : i ≠ j) : rdT (l.set i.toNat v) j = rdT l j := by
  have : i.toNat ≠ j.toNat := by omega
  simp [rdT, rd_T78, List.getElem?_set_ne this]
theorem rd_set_same {l : List Tm} {i : Int} {v : Tm} (h0 : 0 ≤ i) (h1 : i < l.length) : rdT (l.set i.toNat v) i = v := by
  have : i.toNat < l.length := by omega
  simp [rdT, rd_T78, List.getElem?_set_self this]
def Tiny (n m : Nat) (l : List Tm) : Prop := l.length ≤ n ∧ ∀ x ∈ l, x.f5.length ≤ m
theorem mem_set {l : List Tm} {i : Nat} {v x : Tm} (h : x ∈ l.set i v) : x = v ∨ x ∈ l := by
  rcases List.mem_or_eq_of_mem_set h with h | h
  · exact .inr h
  · exact .inl h
theorem rdT_f5 {l : List Tm} {m : Nat} (h : ∀ x ∈ l, x.f5.length ≤ m) {i : Int} (h0 : 0 ≤ i) (h1 : i < l.length) : (rdT l i).f5.length ≤ m := h _ (rdTm_mem h0 h1)
theorem addT_tiny {n m : Nat} {l : List Tm} (h : Tiny n m l) (a b w p q : Int) : Tiny n (m + 1) (addT l a b w p q).1 := by
  have hw : Tiny n (m + 1) l := ⟨h.1, fun x hx => by have := h.2 x hx; omega⟩; unfold addT
  split
  · rename_i hc
    obtain ⟨h1, h2, h3, h4, h5, h6, h7⟩ := hc; split
    · refine ⟨by rw [addL_len]; exact h.1, fun x hx => ?_⟩
      have r1 := findT_range l a; have r2 := findT_range l b; unfold addL at hx
      rcases mem_set hx with rfl | hx
      · have := rdT_f5 h.2 h3 r2.2
        simp only [addY, List.length_append, List.length_cons, List.length_nil]
        omega
      · rcases mem_set hx with rfl | hx
        · have := rdT_f5 h.2 h2 r1.2
          simp only [addX, List.length_append, List.length_cons, List.length_nil]
          omega
        · exact hw.2 x hx
    · exact hw
  · exact hw
theorem Tiny.small {n m : Nat} {l : List Tm} (h : Tiny n m l) (hn : n ≤ 1099511627776) (hm : m ≤ 1099511627776) : Small l := ⟨by have := h.1; omega, fun x hx => by have := h.2 x hx; omega⟩
structure Two (l : List Tm) (i j : Int) : Prop where
  i0 : 0 ≤ i
  i1 : i < l.length
  j0 : 0 ≤ j
  j1 : j < l.length
  ne : i ≠ j
def st2 (l : List Tm) (i j : Int) (u v : Tm) : List Tm := (l.set i.toNat u).set j.toNat v
theorem st2_first {l : List Tm} {i j : Int} {u : Tm} (H : Two l i j) : l.set i.toNat u = st2 l i j u (rdT l j) := by
  have h1 := H.j0; have h2 := H.j1; have h3 := H.i0; have h4 := H.ne; have h5 : i.toNat ≠ j.toNat := by omega
  have hl : j.toNat < l.length := by omega
  have e : rdT l j = l[j.toNat] := by simp [rdT, rd_T78, hl]
  unfold st2
  rw [e]; apply List.ext_getElem?
  intro q; by_cases hq : j.toNat = q
  · subst hq
    rw [List.getElem?_set_self (by simpa using hl), List.getElem?_set_ne h5, List.getElem?_eq_getElem hl]
  · rw [List.getElem?_set_ne hq]
theorem st2_rd_i {l : List Tm} {i j : Int} {u v : Tm} (H : Two l i j) : rdT (st2 l i j u v) i = u := by
  unfold st2
  rw [rd_set_ne H.j0 H.i0 H.ne.symm, rd_set_same H.i0 H.i1]
theorem st2_rd_j {l : List Tm} {i j : Int} {u v : Tm} (H : Two l i j) : rdT (st2 l i j u v) j = v := by
  unfold st2
  rw [rd_set_same H.j0 (by simpa using H.j1)]
theorem st2_set_i {l : List Tm} {i j : Int} {u v u' : Tm} (H : Two l i j) : (st2 l i j u v).set i.toNat u' = st2 l i j u' v := by
  have h1 := H.j0; have h3 := H.i0; have h4 := H.ne; have h5 : i.toNat ≠ j.toNat := by omega
  unfold st2
  rw [List.set_comm _ _ (Ne.symm h5), List.set_set]
theorem st2_set_j {l : List Tm} {i j : Int} {u v v' : Tm} (H : Two l i j) : (st2 l i j u v).set j.toNat v' = st2 l i j u v' := by
  unfold st2
  rw [List.set_set]
theorem small_len {l : List Tm} (hs : Small l) {i : Int} (h0 : 0 ≤ i) (h1 : i < l.length) : (rdT l i).f5.length ≤ 1099511627776 := rdT_f5 hs.2 h0 h1
theorem small_addL {l : List Tm} (hs : Small l) (ha : areT l = true) {a b : Int} (w p q : Int) (h1 : 0 ≤ findT l a) (h2 : 0 ≤ findT l b) : Small (addL l a b w p q) := by
  have r1 := findT_range l a; have r2 := findT_range l b; have hm : ∀ x ∈ l, x.f5.length ≤ 20 := fun x hx => by
    obtain ⟨n, hn, rfl⟩ := List.getElem_of_mem hx; have h1 := areT_row ha n hn; simp only [okT, rowT, Bool.and_eq_true, decide_eq_true_eq] at h1
    have h2 := h1.1.1.2; simp only [rdT, rdTm hn] at h2
    omega
  refine ⟨by rw [addL_len]; exact hs.1, fun x hx => ?_⟩; unfold addL at hx
  rcases mem_set hx with rfl | hx
  · have := rdT_f5 hm h2 r2.2
    simp only [addY, List.length_append, List.length_cons, List.length_nil]
    omega
  · rcases mem_set hx with rfl | hx
    · have := rdT_f5 hm h1 r1.2
      simp only [addX, List.length_append, List.length_cons, List.length_nil]
      omega
    · have := hm x hx
      omega
theorem sCopy_l0 (l : List Tm) (hs : Small l) : ∀ (d n : Nat) (acc : List Tm), n + d = l.length → acc = l.take n → Ev (fun k => spec_l19Copy.l0 k l acc (n : Int)) l := by
  have hl := hs.1; intro d; induction d with
  | zero =>
    intro n acc hd ha; refine Ev.step (fun k => spec_l19Copy.l0.eq_2 ..) (Ev.neg (by omega) (Ev.some_ ?_)); rw [ha, List.take_of_length_le (by omega)]
  | succ d ih =>
    intro n acc hd ha; have hn : n < l.length := by omega
    have h5 := hs.2 _ (List.getElem_mem hn); have hal : acc.length = n := by rw [ha, List.length_take]; omega
    refine Ev.step (fun k => spec_l19Copy.l0.eq_2 ..) (Ev.pos (by omega) (Ev.pos (by omega) (Ev.bnd rfl ?_))); simp only [w64s (show n < 4611686018427387904 by omega), rdTm hn, List.nil_append]
    refine Ev.pos (by simp only [List.length_nil]; omega) (Ev.pos (by omega) ?_); refine ih (n + 1) _ (by omega) ?_; rw [List.take_succ_eq_append_getElem hn, ha]
theorem sCopy_ev (l : List Tm) (hs : Small l) : Ev (fun k => spec_l19Copy.f k l) l := by
  unfold spec_l19Copy.f
  exact sCopy_l0 l hs l.length 0 [] (by omega) (by simp)
theorem sAdd_fin (l : List Tm) (a b w p q : Int) (hs : Small l) (hc : addC l a b w p q) : Ev (fun k => spec_AddResult.j1 k l (addL l a b w p q)) (addT l a b w p q) := by
  have hS := small_addL hs hc.1 w p q hc.2.1 hc.2.2.1; refine Ev.step (fun k => spec_AddResult.j1.eq_2 ..) (Ev.bind (sAreTeams_ev _ hS) ?_); unfold addT
  rw [if_pos hc]; refine Ev.ite (fun h => Ev.some_ (by rw [if_pos h])) (fun h => Ev.bind (sCopy_ev l hs) (Ev.some_ (by rw [if_neg h])))
theorem sAdd_j0 (l : List Tm) (a b w p q : Int) (hs : Small l) (hc : addC l a b w p q) : Ev (fun k => spec_AddResult.j0 k l a b w p q l (findT l a) (findT l b) false) (addT l a b w p q) := by
  have ra := findT_range l a; have rb := findT_range l b; have H : Two l (findT l a) (findT l b) := ⟨hc.2.1, ra.2, hc.2.2.1, rb.2, hc.2.2.2.1⟩; have fin := sAdd_fin l a b w p q hs hc; have ha5 := small_len hs H.i0 H.i1; have hb5 := small_len hs H.j0 H.j1; unfold addL at fin
  generalize findT l a = i at H ra ha5 fin ⊢; generalize findT l b = j at H rb hb5 fin ⊢; have fin2 : Ev (fun k => spec_AddResult.j1 k l (st2 l i j (addX (rdT l i) b w p) (addY (rdT l j) a w q))) (addT l a b w p q) := fin; refine Ev.step (fun k => spec_AddResult.j0.eq_2 ..) (Ev.neg (by simp) (Ev.pos H.i0 (Ev.pos H.i1 (Ev.pos (show (rdT l i).f5.length < _ by omega) ?_)))); refine Ev.bnd (congrArg some (st2_first H)) (Ev.pos H.j0 (Ev.pos H.j1 (Ev.pos (show (rdT (st2 l i j _ _) j).f5.length < _ by rw [st2_rd_j H]; omega) ?_))); refine Ev.bnd (congrArg some (st2_set_j H)) (Ev.bnd (congrArg some (st2_set_i H)) (Ev.bnd (congrArg some (st2_set_i H)) (Ev.bnd (congrArg some (st2_set_j H)) ?_))); change Ev (fun k => if w = 1 then spec_AddResult.j1 k l ((st2 l i j _ _).set i.toNat (⟨(rdT (st2 l i j _ _) i).f0, (rdT (st2 l i j _ _) i).f1, wrap64 ((rdT (st2 l i j _ _) i).f2 + 1), (rdT (st2 l i j _ _) i).f3, (rdT (st2 l i j _ _) i).f4, (rdT (st2 l i j _ _) i).f5⟩ : Tm)) else spec_AddResult.j1 k l ((st2 l i j _ _).set j.toNat (⟨(rdT (st2 l i j _ _) j).f0, (rdT (st2 l i j _ _) j).f1, wrap64 ((rdT (st2 l i j _ _) j).f2 + 1), (rdT (st2 l i j _ _) j).f3, (rdT (st2 l i j _ _) j).f4, (rdT (st2 l i j _ _) j).f5⟩ : Tm))) _
  rw [st2_set_i H, st2_set_j H]; refine Ev.ite (fun hw => ?_) (fun hw => ?_)
  · have e : addX (rdT l i) b w p = ⟨(rdT l i).f0, (rdT l i).f1, wrap64 ((rdT l i).f2 + 1), wrap64 ((rdT l i).f3 + p), wrap64 ((rdT l i).f4 + 1), (rdT l i).f5 ++ [b]⟩ := by simp [addX, hw]
    have e2 : addY (rdT l j) a w q = ⟨(rdT l j).f0, (rdT l j).f1, (rdT l j).f2, wrap64 ((rdT l j).f3 + q), (rdT l j).f4, (rdT l j).f5 ++ [a]⟩ := by simp [addY, hw]
    rw [e, e2] at fin2; simp only [rdT] at fin2
    simpa only [← show ∀ xs x, rdT xs x = rd_T78 xs x from fun _ _ => rfl, st2_rd_i H, st2_rd_j H] using fin2
  · have e : addX (rdT l i) b w p = ⟨(rdT l i).f0, (rdT l i).f1, (rdT l i).f2, wrap64 ((rdT l i).f3 + p), wrap64 ((rdT l i).f4 + 1), (rdT l i).f5 ++ [b]⟩ := by simp [addX, hw]
    have e2 : addY (rdT l j) a w q = ⟨(rdT l j).f0, (rdT l j).f1, wrap64 ((rdT l j).f2 + 1), wrap64 ((rdT l j).f3 + q), (rdT l j).f4, (rdT l j).f5 ++ [a]⟩ := by simp [addY, hw]
    rw [e, e2] at fin2; simpa only [st2_rd_i H, st2_rd_j H] using fin2
theorem sAdd_ev (l : List Tm) (a b w p q : Int) (hs : Small l) : Ev (fun k => spec_AddResult.f k l a b w p q) (addT l a b w p q) := by
  unfold spec_AddResult.f
  have hj : ∀ x y, ¬ addC l a b w p q → Ev (fun k => spec_AddResult.j0 k l a b w p q l x y true) (addT l a b w p q) := fun x y h => Ev.step (fun k => spec_AddResult.j0.eq_2 ..) (Ev.pos rfl (Ev.some_ (by unfold addT; rw [if_neg h]))); refine Ev.bind (sCopy_ev l hs) (Ev.bind (sFindTeam_ev l a hs.1) (Ev.bind (sFindTeam_ev l b hs.1) (Ev.bind (sAreTeams_ev l hs) ?_))); refine Ev.ite (fun h1 => ?_) (fun h1 => hj _ _ (fun h => h1 h.1)); refine Ev.ite (fun h2 => hj _ _ (fun h => by have := h.2.1; omega)) (fun h2 => ?_); refine Ev.ite (fun h3 => hj _ _ (fun h => by have := h.2.2.1; omega)) (fun h3 => ?_); refine Ev.ite (fun h4 => hj _ _ (fun h => h.2.2.2.1 h4)) (fun h4 => ?_); refine Ev.bnd (l1In_eq _ _ _) (Ev.ite (fun h5 => ?_) (fun h5 => hj _ _ (fun h => h5 h.2.2.2.2.1))); refine Ev.bnd (l1In_eq _ _ _) (Ev.ite (fun h6 => ?_) (fun h6 => hj _ _ (fun h => h6 h.2.2.2.2.2.1))); refine Ev.bnd (l1In_eq _ _ _) ?_
  cases h7 : inR q 0 1000 with
  | false => exact hj _ _ (fun h => by have h8 := h.2.2.2.2.2.2; rw [h7] at h8; cases h8)
  | true => exact sAdd_j0 l a b w p q hs ⟨h1, by omega, by omega, h4, h5, h6, h7⟩
theorem TDraw_l1 (b : List Int) : ∀ (d m : Nat) (l : List Tm) (i h : Int), d ≤ 6 → m + d ≤ 6 → 0 < l.length → Tiny 7 m l → At b i → ∃ l' i' h', 0 < l'.length ∧ Tiny 7 6 l' ∧ At b i' ∧ Ev (fun k => spec_l19Draw.l1 k l (d : Int) b i h) (l', i', h') := by
  intro d; induction d with
  | zero =>
    intro m l i h hd hm hp ht ha; exact ⟨l, i, h, hp, ⟨ht.1, fun x hx => by have := ht.2 x hx; omega⟩, ha, Ev.step (fun k => spec_l19Draw.l1.eq_2 ..) (Ev.neg (by omega) (Ev.now _))⟩
  | succ d ih =>
    intro m l i h hd hm hp ht ha; obtain ⟨r1, i1, h1, e1, _, _, _, a1⟩ := Below_eq b i h 6 ha; obtain ⟨r2, i2, h2, e2, _, _, _, a2⟩ := Below_eq b i1 h1 6 a1; obtain ⟨r3, i3, h3, e3, _, _, _, a3⟩ := Below_eq b i2 h2 2 a2; obtain ⟨r4, i4, h4, e4, _, _, _, a4⟩ := Below_eq b i3 h3 20 a3; obtain ⟨r5, i5, h5, e5, _, _, _, a5⟩ := Below_eq b i4 h4 20 a4; have hs : Small l := ht.small (by omega) (by omega); have hA := sAdd_ev l (wrap64 (2 * (wrap64 (1 + r1)))) (wrap64 (2 * (wrap64 (1 + r2)))) (wrap64 (1 + r3)) (wrap64 (60 + r4)) (wrap64 (60 + r5)) hs; have hT := addT_tiny ht (wrap64 (2 * (wrap64 (1 + r1)))) (wrap64 (2 * (wrap64 (1 + r2)))) (wrap64 (1 + r3)) (wrap64 (60 + r4)) (wrap64 (60 + r5)); have hL := addT_len l (wrap64 (2 * (wrap64 (1 + r1)))) (wrap64 (2 * (wrap64 (1 + r2)))) (wrap64 (1 + r3)) (wrap64 (60 + r4)) (wrap64 (60 + r5)); obtain ⟨l', i', h', p', t', a', e'⟩ := ih (m + 1) _ i5 h5 (by omega) (by omega) (by rw [hL]; exact hp) hT a5; refine ⟨l', i', h', p', t', a', Ev.step (fun k => spec_l19Draw.l1.eq_2 ..) (Ev.pos (by omega) (Ev.bnd e1 (Ev.bnd e2 (Ev.bnd e3 (Ev.bnd e4 (Ev.bnd e5 (Ev.bind hA ?_)))))))⟩; rw [w64p (show d < 4611686018427387904 by omega)]; exact e'
theorem TDraw_l0 (b : List Int) : ∀ (d x4 : Nat) (l : List Tm) (i h : Int), x4 + d = 7 → 1 ≤ x4 → l.length + 1 = x4 → Tiny 7 0 l → At b i → ∃ l' i' h', 0 < l'.length ∧ Tiny 7 6 l' ∧ At b i' ∧ Ev (fun k => spec_l19Draw.l0 k l (x4 : Int) b i h) (l', i', h') := by
  intro d; induction d with
  | zero =>
    intro x4 l i h hd h1x hl ht ha; obtain ⟨r, i1, h1, e1, r0, r1, _, a1⟩ := Below_eq b i h 5 ha; have hr := r1 (by omega); obtain ⟨r2, i2, h2, e2, r20, r21, _, a2⟩ := Below_eq b i1 h1 7 a1; have hr2 := r21 (by omega); obtain ⟨n, hn⟩ : ∃ n : Nat, r2 = (n : Int) := ⟨r2.toNat, by omega⟩; subst hn; obtain ⟨l', i', h', p', t', a', e'⟩ := TDraw_l1 b n 0 l i2 h2 (by omega) (by omega) (by omega) ht a2; exact ⟨l', i', h', p', t', a', Ev.step (fun k => spec_l19Draw.l0.eq_2 ..) (Ev.bnd e1 (Ev.neg (by rw [w64 (by omega) (by omega)]; omega) (Ev.bnd e2 e')))⟩
  | succ d ih =>
    intro x4 l i h hd h1x hl ht ha; obtain ⟨r, i1, h1, e1, r0, r1, _, a1⟩ := Below_eq b i h 5 ha; have hr := r1 (by omega); by_cases hx : (x4 : Int) ≤ wrap64 (2 + r)
    · obtain ⟨r2, i2, h2, e2, _, _, _, a2⟩ := Below_eq b i1 h1 3 a1
      obtain ⟨l', i', h', p', t', a', e'⟩ := ih (x4 + 1) (l ++ [(⟨wrap64 (2 * (x4 : Int)), wrap64 (1 + r2), 0, 0, 0, ([] : List Int)⟩ : S78)]) i2 h2 (by omega) (by omega) (by simp; omega) ⟨by simp; omega, fun x hx => by
        rcases List.mem_append.1 hx with hx | hx
        · exact ht.2 x hx
        · simp only [List.mem_cons, List.not_mem_nil, or_false] at hx
          subst hx; simp⟩ a2
      refine ⟨l', i', h', p', t', a', Ev.step (fun k => spec_l19Draw.l0.eq_2 ..) (Ev.bnd e1 (Ev.pos hx (Ev.bnd e2 (Ev.pos (by omega) ?_))))⟩; rw [w64s (show x4 < 4611686018427387904 by omega)]; exact e'
    · have hx2 : 2 ≤ x4 := by rw [w64 (by omega) (by omega)] at hx; omega
      obtain ⟨r2, i2, h2, e2, r20, r21, _, a2⟩ := Below_eq b i1 h1 7 a1; have hr2 := r21 (by omega); obtain ⟨n, hn⟩ : ∃ n : Nat, r2 = (n : Int) := ⟨r2.toNat, by omega⟩; subst hn; obtain ⟨l', i', h', p', t', a', e'⟩ := TDraw_l1 b n 0 l i2 h2 (by omega) (by omega) (by omega) ht a2; exact ⟨l', i', h', p', t', a', Ev.step (fun k => spec_l19Draw.l0.eq_2 ..) (Ev.bnd e1 (Ev.neg hx (Ev.bnd e2 e')))⟩
theorem TDraw_ev (b : List Int) (i h : Int) (ha : At b i) : ∃ l' i' h', 0 < l'.length ∧ Tiny 7 6 l' ∧ At b i' ∧ Ev (fun k => spec_l19Draw.f k b i h) (l', i', h') := by
  unfold spec_l19Draw.f
  exact TDraw_l0 b 6 1 [] i h (by omega) (by omega) (by simp) ⟨by simp, fun x hx => by simp at hx⟩ ha
theorem tiny_set {n m : Nat} {l : List Tm} (h : Tiny n m l) {i : Nat} {v : Tm} (hv : v.f5.length ≤ m) : Tiny n m (l.set i v) :=
  ⟨by rw [List.length_set]; exact h.1, fun x hx => by
    rcases mem_set hx with rfl | hx
    · exact hv
    · exact h.2 x hx⟩
theorem Tiny.wide {n m k : Nat} {l : List Tm} (h : Tiny n m l) (hk : m ≤ k) : Tiny n k l := ⟨h.1, fun x hx => Nat.le_trans (h.2 x hx) hk⟩
theorem TAny_ev (b : List Int) (i h : Int) (ha : At b i) : ∃ l' i' h', 0 < l'.length ∧ Tiny 7 7 l' ∧ At b i' ∧ Ev (fun k => spec_l19Any.f k b i h) (l', i', h') := by
  obtain ⟨l, i1, h1, hp, ht, a1, e1⟩ := TDraw_ev b i h ha; obtain ⟨r, i2, h2, e2, r0, r1, _, a2⟩ := Below_eq b i1 h1 (l.length : Int) a1; have hr := r1 (by omega); obtain ⟨c, i3, h3, e3, _, _, _, a3⟩ := Below_eq b i2 h2 14 a2; have h5 : (rdT l r).f5.length ≤ 6 := rdT_f5 ht.2 r0 hr; unfold spec_l19Any.f
  by_cases c0 : c = 0
  · obtain ⟨v, i4, h4, e4, _, a4⟩ := DInt_eq b i3 h3 [0, 2, 99, 100] (by simp) a3
    exact ⟨l.set r.toNat ⟨v, (rdT l r).f1, (rdT l r).f2, (rdT l r).f3, (rdT l r).f4, (rdT l r).f5⟩, i4, h4, by simpa using hp, tiny_set (ht.wide (by omega)) (by show (rdT l r).f5.length ≤ 7; omega), a4, Ev.bind e1 (Ev.bnd e2 (Ev.bnd e3 (Ev.pos c0 (Ev.bnd e4 (Ev.pos r0 (Ev.pos hr (Ev.now _)))))))⟩
  by_cases c1 : c = 1
  · obtain ⟨v, i4, h4, e4, _, a4⟩ := DInt_eq b i3 h3 [(-1), 9] (by simp) a3
    exact ⟨l.set r.toNat ⟨(rdT l r).f0, (rdT l r).f1, v, (rdT l r).f3, (rdT l r).f4, (rdT l r).f5⟩, i4, h4, by simpa using hp, tiny_set (ht.wide (by omega)) (by show (rdT l r).f5.length ≤ 7; omega), a4, Ev.bind e1 (Ev.bnd e2 (Ev.bnd e3 (Ev.neg c0 (Ev.pos c1 (Ev.bnd e4 (Ev.pos r0 (Ev.pos hr (Ev.now _))))))))⟩
  by_cases c2 : c = 2
  · obtain ⟨v, i4, h4, e4, _, a4⟩ := DInt_eq b i3 h3 [(-1), 100000, 100001] (by simp) a3
    exact ⟨l.set r.toNat ⟨(rdT l r).f0, (rdT l r).f1, (rdT l r).f2, v, (rdT l r).f4, (rdT l r).f5⟩, i4, h4, by simpa using hp, tiny_set (ht.wide (by omega)) (by show (rdT l r).f5.length ≤ 7; omega), a4, Ev.bind e1 (Ev.bnd e2 (Ev.bnd e3 (Ev.neg c0 (Ev.neg c1 (Ev.pos c2 (Ev.bnd e4 (Ev.pos r0 (Ev.pos hr (Ev.now _)))))))))⟩
  by_cases c3 : c = 3
  · exact ⟨l.set r.toNat ⟨(rdT l r).f0, (rdT l r).f1, (rdT l r).f2, (rdT l r).f3, (rdT l r).f4, (rdT l r).f5 ++ [2]⟩, i3, h3, by simpa using hp, tiny_set (ht.wide (by omega)) (by show ((rdT l r).f5 ++ [2]).length ≤ 7; simp; omega), a3, Ev.bind e1 (Ev.bnd e2 (Ev.bnd e3 (Ev.neg c0 (Ev.neg c1 (Ev.neg c2 (Ev.pos c3 (Ev.pos r0 (Ev.pos hr (Ev.pos (show (rdT l r).f5.length < _ by omega) (Ev.now _))))))))))⟩
  by_cases c4 : c = 4
  · obtain ⟨v, i4, h4, e4, _, a4⟩ := DInt_eq b i3 h3 [0, 99, 100] (by simp) a3
    exact ⟨l.set r.toNat ⟨(rdT l r).f0, v, (rdT l r).f2, (rdT l r).f3, (rdT l r).f4, (rdT l r).f5⟩, i4, h4, by simpa using hp, tiny_set (ht.wide (by omega)) (by show (rdT l r).f5.length ≤ 7; omega), a4, Ev.bind e1 (Ev.bnd e2 (Ev.bnd e3 (Ev.neg c0 (Ev.neg c1 (Ev.neg c2 (Ev.neg c3 (Ev.pos c4 (Ev.bnd e4 (Ev.pos r0 (Ev.pos hr (Ev.now _)))))))))))⟩
  exact ⟨l, i3, h3, hp, ht.wide (by omega), a3, Ev.bind e1 (Ev.bnd e2 (Ev.bnd e3 (Ev.neg c0 (Ev.neg c1 (Ev.neg c2 (Ev.neg c3 (Ev.neg c4 (Ev.now _))))))))⟩
theorem DrawRound_ev (c : List Int) (hc : c.length ≤ 1099511627776) : ∃ l, Tiny 7 7 l ∧ Ev (fun k => spec_DrawPairRound.f k c) l := by
  obtain ⟨h0, e0⟩ := New_ev c hc; obtain ⟨l, i1, h1, _, ht, a1, e1⟩ := TAny_ev c 0 h0 ⟨hc, by omega, by omega⟩; refine ⟨l, ht, Ev.bind (a := l) ?_ (Ev.now _)⟩; unfold spec_DrawAreTeams.f
  exact Ev.bind e0 (Ev.bind e1 (Ev.now _))
theorem DrawMay_ev (c : List Int) (hc : c.length ≤ 1099511627776) : ∃ l a b, Tiny 7 7 l ∧ Ev (fun k => spec_DrawMayMeet.f k c) (l, a, b) := by
  obtain ⟨h0, e0⟩ := New_ev c hc; obtain ⟨l, i1, h1, _, ht, a1, e1⟩ := TAny_ev c 0 h0 ⟨hc, by omega, by omega⟩; obtain ⟨r, i2, h2, e2, _, _, _, a2⟩ := Below_eq c i1 h1 15 a1; obtain ⟨r3, i3, h3, e3, _, _, _, a3⟩ := Below_eq c 0 h0 7 ⟨hc, by omega, by omega⟩; refine ⟨l, r, wrap64 (2 * r3), ht, Ev.bind (a := (l, r, wrap64 (2 * r3))) ?_ (Ev.now _)⟩; unfold spec_DrawHaveMet.f
  refine Ev.bind (a := (l, r)) ?_ (Ev.bind e0 (Ev.bnd e3 (Ev.now _))); unfold spec_DrawFindTeam.f
  exact Ev.bind e0 (Ev.bind e1 (Ev.bnd e2 (Ev.now _)))
theorem gapF_ge (l : List Tm) : ∀ (r : List Pr) (acc : Int), acc ≤ gapF l acc r
  | [], acc => Int.le_refl _
  | p :: r, acc => by
    have := gapF_ge l r (if 0 ≤ findT l p.f0 ∧ 0 ≤ findT l p.f1 then mx acc (gapP l p) else acc); have h2 : acc ≤ (if 0 ≤ findT l p.f0 ∧ 0 ≤ findT l p.f1 then mx acc (gapP l p) else acc) := by
      split
      · unfold mx
        split <;> omega
      · omega
    show acc ≤ gapF l _ r
    omega
theorem pairing_l0 (l : List Tm) (hs : Small l) (x : Int) (r : List Int) (g : List Int → List Pr × Bool) (hr : r.length ≤ 1048576) (ih : ∀ z : List Int, z.length + 1 ≤ r.length → Ev (fun k => laws_pairing.f k l z) (g z).2) :
    ∀ (d m : Nat), m + d = r.length → Ev (fun k => laws_pairing.l0 k l (x :: r) ((m + 1 : Nat) : Int)) (pairL l g x (r.take m) (r.drop m)).2 := by
  intro d; induction d with
  | zero =>
    intro m hd; refine Ev.step (fun k => laws_pairing.l0.eq_2 ..) (Ev.neg (by first | (simp; done) | (simp; omega)) (Ev.some_ ?_)); rw [List.drop_eq_nil_of_le (by omega)]; rfl
  | succ d ihd =>
    intro m hd; have hm : m < r.length := by omega
    have hrest := ihd (m + 1) (by omega); rw [take_snoc r m hm] at hrest; have hw : wrap64 (((m + 1 : Nat) : Int) + 1) = ((m + 1 + 1 : Nat) : Int) := w64s (by omega); have hz : (r.take m ++ r.drop (m + 1)).length + 1 ≤ r.length := by simp; omega
    rw [List.drop_eq_getElem_cons hm, pairL]; refine Ev.step (fun k => laws_pairing.l0.eq_2 ..) (Ev.pos (by first | (simp; done) | (simp; omega)) (Ev.pos (by first | (simp; done) | (simp; omega)) (Ev.pos (by omega) ?_))); simp only [rd_head, rd_tail x r hm, hw, Int.toNat_natCast, List.take_succ_cons, List.drop_succ_cons, List.drop_zero, Option.bind_some, List.nil_append]
    refine Ev.bind (iMayMeet_ev l x r[m] hs) ?_; refine Ev.ite (fun h => ?_) (fun h => ?_)
    · rw [if_pos h]
      refine Ev.pos (by omega) (Ev.pos (by first | (simp; done) | (simp; omega)) (Ev.pos (by first | (simp; done) | (simp; omega)) (Ev.pos (by omega) (Ev.pos (by first | (simp; done) | (simp; omega)) (Ev.pos (by first | (simp; done) | (simp; omega)) ?_))))); refine Ev.bind (ih _ hz) (Ev.ite (fun h2 => Ev.some_ (by rw [if_pos h2])) (fun h2 => ?_)); rw [if_neg h2]; exact hrest
    · rw [if_neg h]
      exact hrest
theorem pairing_ev (l : List Tm) (hs : Small l) : ∀ (n : Nat) (left : List Int), left.length ≤ n → left.length ≤ 1048576 → Ev (fun k => laws_pairing.f k l left) (pairR l n left).2
  | 0, [], _, _ => Ev.step (fun k => laws_pairing.f.eq_2 ..) (Ev.pos (by simp) (Ev.now _))
  | 0, x :: r, h, _ => by simp at h
  | n + 1, [], _, _ => Ev.step (fun k => laws_pairing.f.eq_2 ..) (Ev.pos (by simp) (Ev.now _))
  | n + 1, x :: r, h, h2 => by
    simp only [List.length_cons] at h h2
    refine Ev.step (fun k => laws_pairing.f.eq_2 ..) (Ev.neg (by first | (simp; done) | (simp; omega)) ?_); have := pairing_l0 l hs x r (pairR l n) (by omega) (fun z hz => pairing_ev l hs n z (by omega) (by omega)) r.length 0 (by omega); simpa [pairR] using this
theorem pairs_l0 (c : List Int) (l : List Tm) (r : List Pr) (hc : c.length ≤ 1099511627776) (hs : Small l) (hr : r.length ≤ 10) (hp : ∀ p ∈ r, mayT l p.f0 p.f1 = true ∧ (rdT l (findT l p.f0)).f4 ≤ (rdT l (findT l p.f1)).f4) : ∀ (d n : Nat), n + d = r.length → Ev (fun k => laws_FnPairs.l0 k c l r (n : Int)) true := by
  intro d; induction d with
  | zero =>
    intro n hd; refine Ev.step (fun k => laws_FnPairs.l0.eq_2 ..) (Ev.neg (by omega) ?_); obtain ⟨t, a, b, ht, e⟩ := DrawMay_ev c hc; have hst : Small t := ht.small (by omega) (by omega); refine Ev.bind e (Ev.bind (iSideFor_ev t a b hst) (Ev.bind (iMayMeet_ev t a b hst) (Ev.bind (iMayMeet_ev t b a hst) (Ev.pos (by rw [mayT_symm]; simp) ?_)))); refine Ev.bind (iSideFor_ev t b a hst) (Ev.pos (by rw [sideT_symm t b a]; simp) ?_); refine Ev.bind (iSideGap_ev l r hs (by omega)) (Ev.some_ ?_); have := gapF_ge l r 0; exact decide_eq_true (by omega)
  | succ d ih =>
    intro n hd; have hn : n < r.length := by omega
    obtain ⟨h1, h2⟩ := hp _ (List.getElem_mem hn); obtain ⟨_, q1, q2, _⟩ := mayT_iff.1 h1; have r1 := findT_range l (r[n]).f0; have r2 := findT_range l (r[n]).f1; refine Ev.step (fun k => laws_FnPairs.l0.eq_2 ..) (Ev.pos (by omega) (Ev.pos (by omega) ?_)); simp only [rdPair hn, w64s (show n < 4611686018427387904 by omega)]
    refine Ev.bnd (iFindTeam_eq l _) (Ev.pos q1 (Ev.pos r1.2 (Ev.bnd (iFindTeam_eq l _) (Ev.pos q2 (Ev.pos r2.2 (Ev.neg ?_ (ih (n + 1) (by omega)))))))); have h3 : (rd_T78 l (findT l (r[n]).f0)).f4 ≤ (rd_T78 l (findT l (r[n]).f1)).f4 := h2; omega
theorem FnPairs_pure (l0 : List Int) (b0 : l0.length ≤ 9223372036854775807) : ∃ k, laws_FnPairs.f k l0 = some true := by
  refine Ev.rounds (g := fun k => laws_FnPairs.f k l0) ?_; unfold laws_FnPairs.f
  refine Ev.bnd (big_eq l0) (Ev.ite (fun _ => Ev.now _) (fun hb => ?_)); have hl : l0.length ≤ 1099511627776 := by simp only [decide_eq_true_eq] at hb; omega
  obtain ⟨l, ht, e⟩ := DrawRound_ev l0 hl; have hs : Small l := ht.small (by omega) (by omega); have hi := iPairRound_ev l hs; have hsr := sPairRound_ev l hs; obtain ⟨g1, g2⟩ := roundT_good l; have hlen := roundT_len l; have hpn : areT l = true → Ev (fun k => laws_pairing.f k l (standT l)) (pairR l l.length (standT l)).2 := fun h => by
    have h1 := standT_length h; have h2 := areT_len h; exact pairing_ev l hs l.length _ (by omega) (by omega)
  have hsame : areT l = true → l.length % 2 = 0 → (roundT l).2 = (pairR l l.length (standT l)).2 := fun h1 h2 => by unfold roundT; rw [if_pos ⟨h1, h2⟩]
  have hg : ∀ p ∈ (roundT l).1, mayT l p.f0 p.f1 = true ∧ (rdT l (findT l p.f0)).f4 ≤ (rdT l (findT l p.f1)).f4 := by
    cases hk : (roundT l).2 with
    | true => exact (g1 hk).2
    | false => rw [g2 hk]; intro p hp; simp at hp
  refine Ev.bind e (Ev.bind hi (Ev.bind hsr ?_)); generalize roundT l = z at g1 g2 hlen hsame hg; obtain ⟨r, ok⟩ := z; simp only at g1 g2 hlen hsame hg ⊢
  have hfin : Ev (fun k => laws_FnPairs.j0 k l0 l r false) true := Ev.step (fun k => laws_FnPairs.j0.eq_2 ..) (Ev.neg (by simp) (pairs_l0 l0 l r hl hs hlen hg r.length 0 (by omega))); have hne : ∀ b : Bool, ok = b → Ev (fun k => laws_FnPairs.j0 k l0 l r (ok != b)) true := fun b h => by
    rw [h, bne_self_eq_false]; exact hfin
  have htail : Ev (fun k => (impl_AreTeams.f k l).bind fun t => (if t = true then (if ((l.length : Int) % 2) = 0 then ((impl_Standing.f k l).bind fun t2 => ((laws_pairing.f k l t2).bind fun t3 => (laws_FnPairs.j0 k l0 l r (ok != t3)))) else (laws_FnPairs.j0 k l0 l r false)) else (laws_FnPairs.j0 k l0 l r false))) true := by
    refine Ev.bind (iAreTeams_ev l hs) (Ev.ite (fun h1 => ?_) (fun _ => hfin)); refine Ev.ite (fun h2 => ?_) (fun _ => hfin); exact Ev.bind (iStanding_ev l hs) (Ev.bind (hpn h1) (hne _ (hsame h1 (by omega))))
  refine Ev.neg (by simp) (Ev.ite (fun h => ?_) (fun h => ?_))
  · exact Ev.bind (iIsRound_ev l r hs (by omega)) (Ev.pos (g1 h).1 htail)
  · have h0 := g2 (by simpa using h)
    exact Ev.neg (by rw [h0]; simp) htail
end Go.Proofs.Ytdlebbmmanjffaa.L
end
