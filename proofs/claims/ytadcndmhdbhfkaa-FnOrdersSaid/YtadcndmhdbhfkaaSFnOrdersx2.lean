/- What the row FnOrders rests on, put together: A108, LOpen, LBase, LHas, LTurnO, LRngS, LRngI, LCont, LFairI, LOrdP, A46, LDraw, LOrds, LXFnOrders. No condition. -/
import Derived.Test.YtadcndmhdbhfkaaSFnOrdersx0
import Derived.Test.YtadcndmhdbhfkaaSFnOrdersx1
import Derived.Deep.Slices
import Derived.Deep.Fields
import Derived.ChangeSame
import Derived.Lib.SmallJoins
section
namespace Go.Proofs.Ytadcndmhdbhfkaa.A
open Go.RowKit Go.Proofs.YtadcndmhdbhfkaaW.PrintWords Go.Proofs.YtadcndmhdbhfkaaW.PrintLast Go.Proofs.YtadcndmhdbhfkaaW.PrintMore
attribute [local go_sem] max2_int min2_int max_two min_two max_three min_three max_four min_four   -- for this text's walks alone
set_option linter.unusedVariables false
set_option linter.unusedSimpArgs false
def laws_FnOrders.j0 : Nat → List Int → Bool → Option (Bool)
  | 0, _, _ => none
  | k + 1, x0, x86 => if x86 = true then (some false) else ((spec_DrawNextAfter.f k x0).bind fun bt789 => ((impl_NextAfter.f k bt789.1 bt789.2).bind fun t793 => (if t793 = 0 then (some true) else ((laws_contains.f k bt789.1 t793).bind fun t794 => (if t794 = true then ((laws_contains.f k bt789.1 bt789.2).bind fun t795 => (some t795)) else (some false))))))
def laws_FnOrders.f (k : Nat) (l0 : List Int) : Option (Bool) := (laws_big.f l0).bind fun t763 => (if t763 = true then (some true) else ((spec_DrawTurnOrder.f k l0).bind fun bt764 => ((impl_TurnOrder.f k bt764.1 bt764.2).bind fun t770 => ((spec_TurnOrder.f k bt764.1 bt764.2).bind fun t773 => (if (t770.length : Int) = (t773.length : Int) then (if (t770.length : Int) > 0 then (if (t770.length : Int) = (wrap64 ((bt764.1.length : Int) + (bt764.2.length : Int))) then ((impl_CountOf.f k t770 bt764.1).bind fun t776 => (if t776 = (bt764.1.length : Int) then ((impl_CountOf.f k t770 bt764.2).bind fun t777 => (if t777 = (bt764.2.length : Int) then ((impl_IsFairOrder.f k t770 bt764.1).bind fun t778 => (if t778 = true then ((impl_IsFairOrder.f k t770 bt764.2).bind fun t779 => (if t779 = true then ((impl_RightOfReply.f k t770 bt764.1).bind fun t780 => (if 0 ≤ (wrap64 ((bt764.2.length : Int) - 1)) then (if (wrap64 ((bt764.2.length : Int) - 1)) < (bt764.2.length : Int) then (if 0 ≤ (wrap64 ((bt764.1.length : Int) - 1)) then (if (wrap64 ((bt764.1.length : Int) - 1)) < (bt764.1.length : Int) then ((laws_sameInts.f k t780 (([rd bt764.2 (wrap64 ((bt764.2.length : Int) - 1)), rd bt764.1 (wrap64 ((bt764.1.length : Int) - 1))] : List Int))).bind fun t788 => (laws_FnOrders.j0 k l0 (!t788))) else (none)) else (none)) else (none)) else (none))) else (none))) else (none))) else (none))) else (none))) else (none)) else (laws_FnOrders.j0 k l0 false)) else (some false))))))
def laws_FnOrders.T7 : Bool × List (List Nat × List Nat) := (true, [([], []), ([0], [0]), ([1], [1]), ([2], [2]), ([3], [3]), ([4, 3], [3, 4]), ([3], [3]), ([6, 3], [3, 6]), ([3], [3]), ([8, 3], [3, 8]), ([7, 9, 3], [3, 7, 9]), ([5, 10, 3], [3, 5, 10]), ([11, 3, 3], [3, 11]), ([12], [12]), ([12], [12]), ([13, 14, 12, 12], [12, 13, 14]), ([12], [12]), ([16, 12], [12, 16]), ([15, 17, 12], [12, 15, 17]), ([12, 18, 3], [3, 12, 18]), ([19, 15, 3], [3, 19]), ([20], [20]), ([20], [20]), ([21, 22, 20, 20], [20, 21, 22]), ([20], [20]), ([24, 20], [20, 24]), ([23, 25, 20], [20, 23, 25]), ([20, 26, 3], [3, 20, 26]), ([27, 23, 3], [3, 27]), ([28], [28]), ([28], [28]), ([29, 30, 28, 28], [28, 29, 30]), ([31, 28], [28, 31]), ([28, 32, 3], [3, 28, 32]), ([33, 31, 3], [3, 33]), ([34], [34]), ([34], [34]), ([35, 36, 34, 34], [34, 35, 36]), ([37, 34], [34, 37]), ([34, 38, 3], [3, 34, 38]), ([39, 37, 3], [3, 39]), ([40], [40]), ([40], [40]), ([41, 42, 40, 40], [40, 41, 42]), ([40], [40]), ([40], [40]), ([45, 40], [40, 45]), ([46, 40], [40, 46]), ([44, 47, 40], [40, 44, 47]), ([48, 40], [40, 48]), ([40], [40]), ([40], [40]), ([51, 40], [40, 51]), ([52, 40], [40, 52]), ([50, 53, 40], [40, 50, 53]), ([54, 40], [40, 54]), ([49, 55, 40], [40, 49, 55]), ([43, 56, 43, 40], [40, 43, 56]), ([57, 40], [40, 57]), ([40, 58, 3], [3, 40, 58]), ([3, 59], [3, 59])])
def laws_FnOrders.B7 : List Nat := [0, 1, 3, 7, 15, 31, 15, 79, 15, 271, 975, 2047, 4095, 8191, 8191, 32767, 8191, 73727, 262143, 524287, 1048575, 2097151, 2097151, 8388607, 2097151, 18874367, 67108863, 134217727, 268435455, 536870911, 536870911, 2147483647, 4294967295, 8589934591, 17179869183, 34359738367, 34359738367, 137438953471, 274877906943, 549755813887, 1099511627775, 2199023255551, 2199023255551, 8796093022207, 2199023255551, 2199023255551, 37383395344383, 107752139522047, 266081813921791, 547556790632447, 2199023255551, 2199023255551, 2253998836940799, 6757598464311295, 16890697625894911, 34905096135376895, 72042200875139071, 144115188075855871, 288230376151711743, 576460752303423487, 1152921504606846975]
theorem laws_FnOrders.tab7 : rtab .any (opsOf Try.f9 7) = laws_FnOrders.T7 := by kernel_rfl
theorem laws_FnOrders.bits7 : waitsOk laws_FnOrders.T7.2 laws_FnOrders.B7 = true := by kernel_rfl
set_option maxHeartbeats 8000000 in
set_option maxRecDepth 100000 in
theorem laws_FnOrders.calls (k : Nat) (A0 : Option Addr) (c0 : Nat) (l0 : List Int) (r : Bool) (w : World) (hr0 : Kd.C (Kd.int .u8) w A0 l0.length l0) (hc0 : l0.length ≤ c0) (h : laws_FnOrders.f k l0 = some r) :
  Calls Try.prog 9 #[.slice A0 l0.length c0] w fun e w' => e = .returned (.bool r) ∧ Below w.heap.size w w' := by
 have HR0 := Aside0.mk hr0
 have HC0 := Aside0.mk hc0
 clear hr0 hc0
 have HB := Aside0.mk (Below.refl w.heap.size w)
 have H : ((laws_big.f l0).bind fun t763 => (if t763 = true then (some true) else ((spec_DrawTurnOrder.f k l0).bind fun bt764 => ((impl_TurnOrder.f k bt764.1 bt764.2).bind fun t770 => ((spec_TurnOrder.f k bt764.1 bt764.2).bind fun t773 => (if (t770.length : Int) = (t773.length : Int) then (if (t770.length : Int) > 0 then (if (t770.length : Int) = (wrap64 ((bt764.1.length : Int) + (bt764.2.length : Int))) then ((impl_CountOf.f k t770 bt764.1).bind fun t776 => (if t776 = (bt764.1.length : Int) then ((impl_CountOf.f k t770 bt764.2).bind fun t777 => (if t777 = (bt764.2.length : Int) then ((impl_IsFairOrder.f k t770 bt764.1).bind fun t778 => (if t778 = true then ((impl_IsFairOrder.f k t770 bt764.2).bind fun t779 => (if t779 = true then ((impl_RightOfReply.f k t770 bt764.1).bind fun t780 => (if 0 ≤ (wrap64 ((bt764.2.length : Int) - 1)) then (if (wrap64 ((bt764.2.length : Int) - 1)) < (bt764.2.length : Int) then (if 0 ≤ (wrap64 ((bt764.1.length : Int) - 1)) then (if (wrap64 ((bt764.1.length : Int) - 1)) < (bt764.1.length : Int) then ((laws_sameInts.f k t780 (([rd bt764.2 (wrap64 ((bt764.2.length : Int) - 1)), rd bt764.1 (wrap64 ((bt764.1.length : Int) - 1))] : List Int))).bind fun t788 => (laws_FnOrders.j0 k l0 (!t788))) else (none)) else (none)) else (none)) else (none))) else (none))) else (none))) else (none))) else (none))) else (none)) else (laws_FnOrders.j0 k l0 false)) else (some false))))))) = some r := h
 clear h
 replace H := Option.bind_eq_some_iff.mp H
 obtain ⟨t763, A20, H⟩ := H
 replace H : (if t763 = true then (some true) else ((spec_DrawTurnOrder.f k l0).bind fun bt764 => ((impl_TurnOrder.f k bt764.1 bt764.2).bind fun t770 => ((spec_TurnOrder.f k bt764.1 bt764.2).bind fun t773 => (if (t770.length : Int) = (t773.length : Int) then (if (t770.length : Int) > 0 then (if (t770.length : Int) = (wrap64 ((bt764.1.length : Int) + (bt764.2.length : Int))) then ((impl_CountOf.f k t770 bt764.1).bind fun t776 => (if t776 = (bt764.1.length : Int) then ((impl_CountOf.f k t770 bt764.2).bind fun t777 => (if t777 = (bt764.2.length : Int) then ((impl_IsFairOrder.f k t770 bt764.1).bind fun t778 => (if t778 = true then ((impl_IsFairOrder.f k t770 bt764.2).bind fun t779 => (if t779 = true then ((impl_RightOfReply.f k t770 bt764.1).bind fun t780 => (if 0 ≤ (wrap64 ((bt764.2.length : Int) - 1)) then (if (wrap64 ((bt764.2.length : Int) - 1)) < (bt764.2.length : Int) then (if 0 ≤ (wrap64 ((bt764.1.length : Int) - 1)) then (if (wrap64 ((bt764.1.length : Int) - 1)) < (bt764.1.length : Int) then ((laws_sameInts.f k t780 (([rd bt764.2 (wrap64 ((bt764.2.length : Int) - 1)), rd bt764.1 (wrap64 ((bt764.1.length : Int) - 1))] : List Int))).bind fun t788 => (laws_FnOrders.j0 k l0 (!t788))) else (none)) else (none)) else (none)) else (none))) else (none))) else (none))) else (none))) else (none))) else (none)) else (laws_FnOrders.j0 k l0 false)) else (some false)))))) = some r := H
 have A2 := Aside0.mk A20
 clear A20
 by_cases c3 : t763 = true
 rotate_left
 ·
  replace c3 := Bool.eq_false_iff.mpr c3
  subst c3
  have H1 : ((spec_DrawTurnOrder.f k l0).bind fun bt764 => ((impl_TurnOrder.f k bt764.1 bt764.2).bind fun t770 => ((spec_TurnOrder.f k bt764.1 bt764.2).bind fun t773 => (if (t770.length : Int) = (t773.length : Int) then (if (t770.length : Int) > 0 then (if (t770.length : Int) = (wrap64 ((bt764.1.length : Int) + (bt764.2.length : Int))) then ((impl_CountOf.f k t770 bt764.1).bind fun t776 => (if t776 = (bt764.1.length : Int) then ((impl_CountOf.f k t770 bt764.2).bind fun t777 => (if t777 = (bt764.2.length : Int) then ((impl_IsFairOrder.f k t770 bt764.1).bind fun t778 => (if t778 = true then ((impl_IsFairOrder.f k t770 bt764.2).bind fun t779 => (if t779 = true then ((impl_RightOfReply.f k t770 bt764.1).bind fun t780 => (if 0 ≤ (wrap64 ((bt764.2.length : Int) - 1)) then (if (wrap64 ((bt764.2.length : Int) - 1)) < (bt764.2.length : Int) then (if 0 ≤ (wrap64 ((bt764.1.length : Int) - 1)) then (if (wrap64 ((bt764.1.length : Int) - 1)) < (bt764.1.length : Int) then ((laws_sameInts.f k t780 (([rd bt764.2 (wrap64 ((bt764.2.length : Int) - 1)), rd bt764.1 (wrap64 ((bt764.1.length : Int) - 1))] : List Int))).bind fun t788 => (laws_FnOrders.j0 k l0 (!t788))) else (none)) else (none)) else (none)) else (none))) else (none))) else (none))) else (none))) else (none))) else (none)) else (laws_FnOrders.j0 k l0 false)) else (some false))))) = some r := by rw [if_neg (show ¬ (false = true) by decide)] at H; exact H
  clear H
  have H := H1
  clear H1
  replace H := Option.bind_eq_some_iff.mp H
  obtain ⟨⟨t764, t765⟩, A40, H⟩ := H
  replace H : ((impl_TurnOrder.f k t764 t765).bind fun t770 => ((spec_TurnOrder.f k t764 t765).bind fun t773 => (if (t770.length : Int) = (t773.length : Int) then (if (t770.length : Int) > 0 then (if (t770.length : Int) = (wrap64 ((t764.length : Int) + (t765.length : Int))) then ((impl_CountOf.f k t770 t764).bind fun t776 => (if t776 = (t764.length : Int) then ((impl_CountOf.f k t770 t765).bind fun t777 => (if t777 = (t765.length : Int) then ((impl_IsFairOrder.f k t770 t764).bind fun t778 => (if t778 = true then ((impl_IsFairOrder.f k t770 t765).bind fun t779 => (if t779 = true then ((impl_RightOfReply.f k t770 t764).bind fun t780 => (if 0 ≤ (wrap64 ((t765.length : Int) - 1)) then (if (wrap64 ((t765.length : Int) - 1)) < (t765.length : Int) then (if 0 ≤ (wrap64 ((t764.length : Int) - 1)) then (if (wrap64 ((t764.length : Int) - 1)) < (t764.length : Int) then ((laws_sameInts.f k t780 (([rd t765 (wrap64 ((t765.length : Int) - 1)), rd t764 (wrap64 ((t764.length : Int) - 1))] : List Int))).bind fun t788 => (laws_FnOrders.j0 k l0 (!t788))) else (none)) else (none)) else (none)) else (none))) else (none))) else (none))) else (none))) else (none))) else (none)) else (laws_FnOrders.j0 k l0 false)) else (some false)))) = some r := H
  have A4 := Aside0.mk A40
  clear A40
  replace H := Option.bind_eq_some_iff.mp H
  obtain ⟨t770, A50, H⟩ := H
  replace H : ((spec_TurnOrder.f k t764 t765).bind fun t773 => (if (t770.length : Int) = (t773.length : Int) then (if (t770.length : Int) > 0 then (if (t770.length : Int) = (wrap64 ((t764.length : Int) + (t765.length : Int))) then ((impl_CountOf.f k t770 t764).bind fun t776 => (if t776 = (t764.length : Int) then ((impl_CountOf.f k t770 t765).bind fun t777 => (if t777 = (t765.length : Int) then ((impl_IsFairOrder.f k t770 t764).bind fun t778 => (if t778 = true then ((impl_IsFairOrder.f k t770 t765).bind fun t779 => (if t779 = true then ((impl_RightOfReply.f k t770 t764).bind fun t780 => (if 0 ≤ (wrap64 ((t765.length : Int) - 1)) then (if (wrap64 ((t765.length : Int) - 1)) < (t765.length : Int) then (if 0 ≤ (wrap64 ((t764.length : Int) - 1)) then (if (wrap64 ((t764.length : Int) - 1)) < (t764.length : Int) then ((laws_sameInts.f k t780 (([rd t765 (wrap64 ((t765.length : Int) - 1)), rd t764 (wrap64 ((t764.length : Int) - 1))] : List Int))).bind fun t788 => (laws_FnOrders.j0 k l0 (!t788))) else (none)) else (none)) else (none)) else (none))) else (none))) else (none))) else (none))) else (none))) else (none)) else (laws_FnOrders.j0 k l0 false)) else (some false))) = some r := H
  have A5 := Aside0.mk A50
  clear A50
  replace H := Option.bind_eq_some_iff.mp H
  obtain ⟨t773, A60, H⟩ := H
  replace H : (if (t770.length : Int) = (t773.length : Int) then (if (t770.length : Int) > 0 then (if (t770.length : Int) = (wrap64 ((t764.length : Int) + (t765.length : Int))) then ((impl_CountOf.f k t770 t764).bind fun t776 => (if t776 = (t764.length : Int) then ((impl_CountOf.f k t770 t765).bind fun t777 => (if t777 = (t765.length : Int) then ((impl_IsFairOrder.f k t770 t764).bind fun t778 => (if t778 = true then ((impl_IsFairOrder.f k t770 t765).bind fun t779 => (if t779 = true then ((impl_RightOfReply.f k t770 t764).bind fun t780 => (if 0 ≤ (wrap64 ((t765.length : Int) - 1)) then (if (wrap64 ((t765.length : Int) - 1)) < (t765.length : Int) then (if 0 ≤ (wrap64 ((t764.length : Int) - 1)) then (if (wrap64 ((t764.length : Int) - 1)) < (t764.length : Int) then ((laws_sameInts.f k t780 (([rd t765 (wrap64 ((t765.length : Int) - 1)), rd t764 (wrap64 ((t764.length : Int) - 1))] : List Int))).bind fun t788 => (laws_FnOrders.j0 k l0 (!t788))) else (none)) else (none)) else (none)) else (none))) else (none))) else (none))) else (none))) else (none))) else (none)) else (laws_FnOrders.j0 k l0 false)) else (some false)) = some r := H
  have A6 := Aside0.mk A60
  clear A60
  by_cases c7 : (t770.length : Int) = (t773.length : Int)
  rotate_left
  ·
   rw [if_neg c7] at H
   have c7b0 : ((t770.length : Int) == (t773.length : Int)) = false := beq_eq_false_iff_ne.mpr c7
   have c7b1 : ((t770.length : Int) != (t773.length : Int)) = true := bne_iff_ne.mpr c7
   have c7b2 : (t770.length == t773.length) = false := by first | simpa using c7 | (simp at c7 ⊢; omega)
   obtain rfl := Option.some.inj H
   go_enter Try.func9, Try.ntmps9
   go_wp2_with (first | ((with_reducible refine gate_callee (f := 26) rfl ?_); refine goesL_ (some 10) rfl rfl Try.func26 (by kernel_rfl) rfl #[.slice A0 l0.length c0] rfl (by (try simp only [List.map_toArray, List.map_cons, List.map_nil]); first | done | rfl | (simp only [List.length_drop, List.length_take]; rfl)) ?_; (with_reducible refine (laws_big.calls _ _ l0 false _ ?side1 ?side2 A2.out).mono ?_); (case side1 => repeat (first | exact HR0.out | (with_reducible refine Kd.C_alloc ?_ _) | (with_reducible refine Kd.C_drewN ?_ _) | (with_reducible refine Kd.C_drew ?_))); (case side2 => exact HC0.out); rintro e w' ⟨rfl, ⟨nd, rfl⟩⟩; refine ⟨_, rfl, ?_⟩) | ((with_reducible refine gate_callee (f := 39) rfl ?_); refine goesL_ (some 13) rfl rfl Try.func39 (by kernel_rfl) rfl #[.slice A0 l0.length c0] rfl (by (try simp only [List.map_toArray, List.map_cons, List.map_nil]); first | done | rfl | (simp only [List.length_drop, List.length_take]; rfl)) ?_; (with_reducible refine (spec_DrawTurnOrder.calls k _ _ l0 t764 t765 _ ?side1 ?side2 A4.out).mono ?_); (case side1 => repeat (first | exact HR0.out | (with_reducible refine Kd.C_alloc ?_ _) | (with_reducible refine Kd.C_drewN ?_ _) | (with_reducible refine Kd.C_drew ?_))); (case side2 => exact HC0.out); rintro e w60 ⟨v766, v768, rfl, ho0, ho1, hb⟩; refine ⟨_, rfl, ?_⟩; have n0_ := Aside0.mk (Kd.R_lower ho0 (below_size (by repeat (first | (with_reducible first | exact HB.out | apply below_alloc | apply pw_below_drewN | apply below_drew1) | exact HB.out)))); have n1_ := Aside0.mk (Kd.R_lower ho1 (below_size (by repeat (first | (with_reducible first | exact HB.out | apply below_alloc | apply pw_below_drewN | apply below_drew1) | exact HB.out)))); have n2_ := Aside0.mk (below_step (by repeat (first | (with_reducible first | exact HB.out | apply below_alloc | apply pw_below_drewN | apply below_drew1) | exact HB.out)) hb); clear HB; have HO767 := n0_; have HO769 := n1_; have HB := n2_; clear n0_ n1_ n2_; (try clear hb); (try clear hb2); (try clear hk); (try clear hi); (try clear ho0); (try clear ho1); obtain ⟨Ao61, co61, eo61⟩ := Kd.R_slice HO767.out; subst eo61; obtain ⟨Ao62, co62, eo62⟩ := Kd.R_slice HO769.out; subst eo62) | ((with_reducible refine gate_callee (f := 38) rfl ?_); refine goesL_ (some 18) rfl rfl Try.func38 (by kernel_rfl) rfl #[.slice Ao61 t764.length co61, .slice Ao62 t765.length co62] rfl (by (try simp only [List.map_toArray, List.map_cons, List.map_nil]); first | done | rfl | (simp only [List.length_drop, List.length_take]; rfl)) ?_; (with_reducible refine (impl_TurnOrder.calls k _ _ t764 _ _ t765 t770 _ ?side1 ?side2 ?side3 ?side4 A5.out).mono ?_); (case side1 => repeat (first | exact (Kd.R_reads' HO767.out).2.2 | (with_reducible refine Kd.C_alloc ?_ _) | (with_reducible refine Kd.C_drewN ?_ _) | (with_reducible refine Kd.C_drew ?_))); (case side2 => exact (Kd.R_reads' HO767.out).2.1); (case side3 => repeat (first | exact (Kd.R_reads' HO769.out).2.2 | (with_reducible refine Kd.C_alloc ?_ _) | (with_reducible refine Kd.C_drewN ?_ _) | (with_reducible refine Kd.C_drew ?_))); (case side4 => exact (Kd.R_reads' HO769.out).2.1); rintro e w63 ⟨v771, rfl, ho0, hb⟩; refine ⟨_, rfl, ?_⟩; have n0_ := Aside0.mk (Kd.R_elder' (by (with_reducible repeat (first | apply Kd.R_alloc | apply Kd.R_drewN | apply Kd.R_drew)); exact HO767.out) (Kd.R_base ho0) hb); have n1_ := Aside0.mk (Kd.R_elder' (by (with_reducible repeat (first | apply Kd.R_alloc | apply Kd.R_drewN | apply Kd.R_drew)); exact HO769.out) (Kd.R_base ho0) hb); have n2_ := Aside0.mk (Kd.R_lower (Kd.R_new' (Kd.R_new' ho0 (Kd.R_lt (by (with_reducible repeat (first | apply Kd.R_alloc | apply Kd.R_drewN | apply Kd.R_drew)); exact HO767.out))) (Kd.R_lt (by (with_reducible repeat (first | apply Kd.R_alloc | apply Kd.R_drewN | apply Kd.R_drew)); exact HO769.out))) (below_size (by repeat (first | (with_reducible first | exact HB.out | apply below_alloc | apply pw_below_drewN | apply below_drew1) | exact HB.out)))); have n3_ := Aside0.mk (below_step (by repeat (first | (with_reducible first | exact HB.out | apply below_alloc | apply pw_below_drewN | apply below_drew1) | exact HB.out)) hb); clear HO767; clear HO769; clear HB; have HO767 := n0_; have HO769 := n1_; have HO772 := n2_; have HB := n3_; clear n0_ n1_ n2_ n3_; (try clear hb); (try clear hb2); (try clear hk); (try clear hi); (try clear ho0); obtain ⟨Ao64, co64, eo64⟩ := Kd.R_slice HO772.out; subst eo64) | ((with_reducible refine gate_callee (f := 37) rfl ?_); refine goesL_ (some 23) rfl rfl Try.func37 (by kernel_rfl) rfl #[.slice Ao61 t764.length co61, .slice Ao62 t765.length co62] rfl (by (try simp only [List.map_toArray, List.map_cons, List.map_nil]); first | done | rfl | (simp only [List.length_drop, List.length_take]; rfl)) ?_; (with_reducible refine (spec_TurnOrder.calls k _ _ t764 _ _ t765 t773 _ ?side1 ?side2 ?side3 ?side4 A6.out).mono ?_); (case side1 => repeat (first | exact (Kd.R_reads' HO767.out).2.2 | (with_reducible refine Kd.C_alloc ?_ _) | (with_reducible refine Kd.C_drewN ?_ _) | (with_reducible refine Kd.C_drew ?_))); (case side2 => exact (Kd.R_reads' HO767.out).2.1); (case side3 => repeat (first | exact (Kd.R_reads' HO769.out).2.2 | (with_reducible refine Kd.C_alloc ?_ _) | (with_reducible refine Kd.C_drewN ?_ _) | (with_reducible refine Kd.C_drew ?_))); (case side4 => exact (Kd.R_reads' HO769.out).2.1); rintro e w65 ⟨v774, rfl, ho0, hb⟩; refine ⟨_, rfl, ?_⟩; have n0_ := Aside0.mk (Kd.R_elder' (by (with_reducible repeat (first | apply Kd.R_alloc | apply Kd.R_drewN | apply Kd.R_drew)); exact HO767.out) (Kd.R_base ho0) hb); have n1_ := Aside0.mk (Kd.R_elder' (by (with_reducible repeat (first | apply Kd.R_alloc | apply Kd.R_drewN | apply Kd.R_drew)); exact HO769.out) (Kd.R_base ho0) hb); have n2_ := Aside0.mk (Kd.R_elder' (by (with_reducible repeat (first | apply Kd.R_alloc | apply Kd.R_drewN | apply Kd.R_drew)); exact HO772.out) (Kd.R_base ho0) hb); have n3_ := Aside0.mk (Kd.R_lower (Kd.R_new' (Kd.R_new' (Kd.R_new' ho0 (Kd.R_lt (by (with_reducible repeat (first | apply Kd.R_alloc | apply Kd.R_drewN | apply Kd.R_drew)); exact HO767.out))) (Kd.R_lt (by (with_reducible repeat (first | apply Kd.R_alloc | apply Kd.R_drewN | apply Kd.R_drew)); exact HO769.out))) (Kd.R_lt (by (with_reducible repeat (first | apply Kd.R_alloc | apply Kd.R_drewN | apply Kd.R_drew)); exact HO772.out))) (below_size (by repeat (first | (with_reducible first | exact HB.out | apply below_alloc | apply pw_below_drewN | apply below_drew1) | exact HB.out)))); have n4_ := Aside0.mk (below_step (by repeat (first | (with_reducible first | exact HB.out | apply below_alloc | apply pw_below_drewN | apply below_drew1) | exact HB.out)) hb); clear HO767; clear HO769; clear HO772; clear HB; have HO767 := n0_; have HO769 := n1_; have HO772 := n2_; have HO775 := n3_; have HB := n4_; clear n0_ n1_ n2_ n3_ n4_; (try clear hb); (try clear hb2); (try clear hk); (try clear hi); (try clear ho0); obtain ⟨Ao66, co66, eo66⟩ := Kd.R_slice HO775.out; subst eo66))
   all_goals (go_ret; exact ⟨by first | rfl | (simp [errW_none, errW_some] <;> rfl) | (simp [*, errW_none, errW_some] <;> rfl), by repeat (first | (with_reducible first | exact HB.out | apply below_alloc | apply pw_below_drewN | apply below_drew1) | exact HB.out)⟩)

  rw [if_pos c7] at H
  have c7b0 : ((t770.length : Int) == (t773.length : Int)) = true := beq_iff_eq.mpr c7
  have c7b1 : ((t770.length : Int) != (t773.length : Int)) = false := bne_eq_false_iff_eq.mpr c7
  have c7b2 : (t770.length == t773.length) = true := by first | simpa using c7 | (simp at c7 ⊢; omega)
  clear c7
  have HC8 := Aside0.mk H
  clear H
  go_enter Try.func9, Try.ntmps9
  go_upto_region 7 with (first | ((with_reducible refine gate_callee (f := 26) rfl ?_); refine goesL_ (some 10) rfl rfl Try.func26 (by kernel_rfl) rfl #[.slice A0 l0.length c0] rfl (by (try simp only [List.map_toArray, List.map_cons, List.map_nil]); first | done | rfl | (simp only [List.length_drop, List.length_take]; rfl)) ?_; (with_reducible refine (laws_big.calls _ _ l0 false _ ?side1 ?side2 A2.out).mono ?_); (case side1 => repeat (first | exact HR0.out | (with_reducible refine Kd.C_alloc ?_ _) | (with_reducible refine Kd.C_drewN ?_ _) | (with_reducible refine Kd.C_drew ?_))); (case side2 => exact HC0.out); rintro e w' ⟨rfl, ⟨nd, rfl⟩⟩; refine ⟨_, rfl, ?_⟩) | ((with_reducible refine gate_callee (f := 39) rfl ?_); refine goesL_ (some 13) rfl rfl Try.func39 (by kernel_rfl) rfl #[.slice A0 l0.length c0] rfl (by (try simp only [List.map_toArray, List.map_cons, List.map_nil]); first | done | rfl | (simp only [List.length_drop, List.length_take]; rfl)) ?_; (with_reducible refine (spec_DrawTurnOrder.calls k _ _ l0 t764 t765 _ ?side1 ?side2 A4.out).mono ?_); (case side1 => repeat (first | exact HR0.out | (with_reducible refine Kd.C_alloc ?_ _) | (with_reducible refine Kd.C_drewN ?_ _) | (with_reducible refine Kd.C_drew ?_))); (case side2 => exact HC0.out); rintro e w9 ⟨v766, v768, rfl, ho0, ho1, hb⟩; refine ⟨_, rfl, ?_⟩; have n0_ := Aside0.mk (Kd.R_lower ho0 (below_size (by repeat (first | (with_reducible first | exact HB.out | apply below_alloc | apply pw_below_drewN | apply below_drew1) | exact HB.out)))); have n1_ := Aside0.mk (Kd.R_lower ho1 (below_size (by repeat (first | (with_reducible first | exact HB.out | apply below_alloc | apply pw_below_drewN | apply below_drew1) | exact HB.out)))); have n2_ := Aside0.mk (below_step (by repeat (first | (with_reducible first | exact HB.out | apply below_alloc | apply pw_below_drewN | apply below_drew1) | exact HB.out)) hb); clear HB; have HO767 := n0_; have HO769 := n1_; have HB := n2_; clear n0_ n1_ n2_; (try clear hb); (try clear hb2); (try clear hk); (try clear hi); (try clear ho0); (try clear ho1); obtain ⟨Ao10, co10, eo10⟩ := Kd.R_slice HO767.out; subst eo10; obtain ⟨Ao11, co11, eo11⟩ := Kd.R_slice HO769.out; subst eo11) | ((with_reducible refine gate_callee (f := 38) rfl ?_); refine goesL_ (some 18) rfl rfl Try.func38 (by kernel_rfl) rfl #[.slice Ao10 t764.length co10, .slice Ao11 t765.length co11] rfl (by (try simp only [List.map_toArray, List.map_cons, List.map_nil]); first | done | rfl | (simp only [List.length_drop, List.length_take]; rfl)) ?_; (with_reducible refine (impl_TurnOrder.calls k _ _ t764 _ _ t765 t770 _ ?side1 ?side2 ?side3 ?side4 A5.out).mono ?_); (case side1 => repeat (first | exact (Kd.R_reads' HO767.out).2.2 | (with_reducible refine Kd.C_alloc ?_ _) | (with_reducible refine Kd.C_drewN ?_ _) | (with_reducible refine Kd.C_drew ?_))); (case side2 => exact (Kd.R_reads' HO767.out).2.1); (case side3 => repeat (first | exact (Kd.R_reads' HO769.out).2.2 | (with_reducible refine Kd.C_alloc ?_ _) | (with_reducible refine Kd.C_drewN ?_ _) | (with_reducible refine Kd.C_drew ?_))); (case side4 => exact (Kd.R_reads' HO769.out).2.1); rintro e w12 ⟨v771, rfl, ho0, hb⟩; refine ⟨_, rfl, ?_⟩; have n0_ := Aside0.mk (Kd.R_elder' (by (with_reducible repeat (first | apply Kd.R_alloc | apply Kd.R_drewN | apply Kd.R_drew)); exact HO767.out) (Kd.R_base ho0) hb); have n1_ := Aside0.mk (Kd.R_elder' (by (with_reducible repeat (first | apply Kd.R_alloc | apply Kd.R_drewN | apply Kd.R_drew)); exact HO769.out) (Kd.R_base ho0) hb); have n2_ := Aside0.mk (Kd.R_lower (Kd.R_new' (Kd.R_new' ho0 (Kd.R_lt (by (with_reducible repeat (first | apply Kd.R_alloc | apply Kd.R_drewN | apply Kd.R_drew)); exact HO767.out))) (Kd.R_lt (by (with_reducible repeat (first | apply Kd.R_alloc | apply Kd.R_drewN | apply Kd.R_drew)); exact HO769.out))) (below_size (by repeat (first | (with_reducible first | exact HB.out | apply below_alloc | apply pw_below_drewN | apply below_drew1) | exact HB.out)))); have n3_ := Aside0.mk (below_step (by repeat (first | (with_reducible first | exact HB.out | apply below_alloc | apply pw_below_drewN | apply below_drew1) | exact HB.out)) hb); clear HO767; clear HO769; clear HB; have HO767 := n0_; have HO769 := n1_; have HO772 := n2_; have HB := n3_; clear n0_ n1_ n2_ n3_; (try clear hb); (try clear hb2); (try clear hk); (try clear hi); (try clear ho0); obtain ⟨Ao13, co13, eo13⟩ := Kd.R_slice HO772.out; subst eo13) | ((with_reducible refine gate_callee (f := 37) rfl ?_); refine goesL_ (some 23) rfl rfl Try.func37 (by kernel_rfl) rfl #[.slice Ao10 t764.length co10, .slice Ao11 t765.length co11] rfl (by (try simp only [List.map_toArray, List.map_cons, List.map_nil]); first | done | rfl | (simp only [List.length_drop, List.length_take]; rfl)) ?_; (with_reducible refine (spec_TurnOrder.calls k _ _ t764 _ _ t765 t773 _ ?side1 ?side2 ?side3 ?side4 A6.out).mono ?_); (case side1 => repeat (first | exact (Kd.R_reads' HO767.out).2.2 | (with_reducible refine Kd.C_alloc ?_ _) | (with_reducible refine Kd.C_drewN ?_ _) | (with_reducible refine Kd.C_drew ?_))); (case side2 => exact (Kd.R_reads' HO767.out).2.1); (case side3 => repeat (first | exact (Kd.R_reads' HO769.out).2.2 | (with_reducible refine Kd.C_alloc ?_ _) | (with_reducible refine Kd.C_drewN ?_ _) | (with_reducible refine Kd.C_drew ?_))); (case side4 => exact (Kd.R_reads' HO769.out).2.1); rintro e w14 ⟨v774, rfl, ho0, hb⟩; refine ⟨_, rfl, ?_⟩; have n0_ := Aside0.mk (Kd.R_elder' (by (with_reducible repeat (first | apply Kd.R_alloc | apply Kd.R_drewN | apply Kd.R_drew)); exact HO767.out) (Kd.R_base ho0) hb); have n1_ := Aside0.mk (Kd.R_elder' (by (with_reducible repeat (first | apply Kd.R_alloc | apply Kd.R_drewN | apply Kd.R_drew)); exact HO769.out) (Kd.R_base ho0) hb); have n2_ := Aside0.mk (Kd.R_elder' (by (with_reducible repeat (first | apply Kd.R_alloc | apply Kd.R_drewN | apply Kd.R_drew)); exact HO772.out) (Kd.R_base ho0) hb); have n3_ := Aside0.mk (Kd.R_lower (Kd.R_new' (Kd.R_new' (Kd.R_new' ho0 (Kd.R_lt (by (with_reducible repeat (first | apply Kd.R_alloc | apply Kd.R_drewN | apply Kd.R_drew)); exact HO767.out))) (Kd.R_lt (by (with_reducible repeat (first | apply Kd.R_alloc | apply Kd.R_drewN | apply Kd.R_drew)); exact HO769.out))) (Kd.R_lt (by (with_reducible repeat (first | apply Kd.R_alloc | apply Kd.R_drewN | apply Kd.R_drew)); exact HO772.out))) (below_size (by repeat (first | (with_reducible first | exact HB.out | apply below_alloc | apply pw_below_drewN | apply below_drew1) | exact HB.out)))); have n4_ := Aside0.mk (below_step (by repeat (first | (with_reducible first | exact HB.out | apply below_alloc | apply pw_below_drewN | apply below_drew1) | exact HB.out)) hb); clear HO767; clear HO769; clear HO772; clear HB; have HO767 := n0_; have HO769 := n1_; have HO772 := n2_; have HO775 := n3_; have HB := n4_; clear n0_ n1_ n2_ n3_ n4_; (try clear hb); (try clear hb2); (try clear hk); (try clear hi); (try clear ho0); obtain ⟨Ao15, co15, eo15⟩ := Kd.R_slice HO775.out; subst eo15))
  (try simp only [Act.put, Z1, Z2, Z3])
  go_cut [86] (fun v86 wc => ∃ (kq : Nat) (x86_7 : Bool), v86 = .bool x86_7 ∧ Aside0 (laws_FnOrders.j0 kq l0 x86_7 = some r) ∧ Aside0 (kq ≤ k) ∧ Aside0 (Below w.heap.size w wc))
  case first =>
   have H := HC8.out
   clear HC8
   by_cases c16 : (t770.length : Int) > 0
   rotate_left
   ·
    rw [if_neg c16] at H
    have c16b0 : decide (0 < (t770.length : Int)) = false := decide_eq_false c16
    have c16b1 : decide (0 < t770.length) = false := decide_eq_false (by omega)
    clear c16
    (first | rw [c16b0] | (simp only [i64_w, i32_w]; rw [c16b0]) | skip)
    have H' := Aside0.mk H
    clear H
    try go_wp2
    have n0_ := Aside0.mk (Kd.R_drew HO767.out)
    have n1_ := Aside0.mk (Kd.R_drew HO769.out)
    have n2_ := Aside0.mk (Kd.R_drew HO772.out)
    have n3_ := Aside0.mk (Kd.R_drew HO775.out)
    have n4_ := Aside0.mk (below_drew1 HB.out)
    clear HO767
    clear HO769
    clear HO772
    clear HO775
    clear HB
    have HO767 := n0_
    have HO769 := n1_
    have HO772 := n2_
    have HO775 := n3_
    have HB := n4_
    clear n0_ n1_ n2_ n3_ n4_
    refine start_ (n := 61) (S := fun w' => True) (ds := []) (bv 61 0) (by kernel_rfl) rfl rfl trivial (fun hHeld => ?_); refine with_tabW laws_FnOrders.tab7 laws_FnOrders.bits7 (fun HT_ HW_ => ?_)
    generalize w14.drew = w46 at HO767 HO769 HO772 HO775 HB hHeld ⊢
    refine pv_ 61 0 26 1 rfl rfl HT_ ?_; refine pv_ 61 1 27 3 rfl rfl HT_ ?_; refine pv_ 61 2 28 7 rfl rfl HT_ ?_; refine pv_ 61 3 29 15 rfl rfl HT_ ?_; refine pu_ 61 4 30 31 rfl rfl HT_ ?_; refine pu_ 61 5 31 63 rfl rfl HT_ ?_; refine pu_ 61 6 32 127 rfl rfl HT_ ?_; refine pu_ 61 7 33 255 rfl rfl HT_ ?_; refine pu_ 61 8 34 511 rfl rfl HT_ ?_; refine pu_ 61 9 35 1023 rfl rfl HT_ ?_; refine pu_ 61 10 36 2047 rfl rfl HT_ ?_; refine pu_ 61 11 37 4095 rfl rfl HT_ ?_; refine pu_ 61 12 38 8191 rfl rfl HT_ ?_; refine pu_ 61 13 39 16383 rfl rfl HT_ ?_; refine pu_ 61 14 40 32767 rfl rfl HT_ ?_; refine pu_ 61 15 41 65535 rfl rfl HT_ ?_; refine pu_ 61 16 42 131071 rfl rfl HT_ ?_; refine pu_ 61 17 43 262143 rfl rfl HT_ ?_; refine pu_ 61 18 44 524287 rfl rfl HT_ ?_; refine pu_ 61 19 45 1048575 rfl rfl HT_ ?_; refine pu_ 61 20 46 2097151 rfl rfl HT_ ?_; refine pu_ 61 21 47 4194303 rfl rfl HT_ ?_; refine pu_ 61 22 48 8388607 rfl rfl HT_ ?_
    refine pu_ 61 23 49 16777215 rfl rfl HT_ ?_; refine pu_ 61 24 50 33554431 rfl rfl HT_ ?_; refine pu_ 61 25 51 67108863 rfl rfl HT_ ?_; refine pu_ 61 26 52 134217727 rfl rfl HT_ ?_; refine pu_ 61 27 53 268435455 rfl rfl HT_ ?_; refine pu_ 61 28 54 536870911 rfl rfl HT_ ?_; refine pu_ 61 29 55 1073741823 rfl rfl HT_ ?_; refine pu_ 61 30 56 2147483647 rfl rfl HT_ ?_; refine pu_ 61 31 57 4294967295 rfl rfl HT_ ?_; refine pu_ 61 32 58 8589934591 rfl rfl HT_ ?_; refine pu_ 61 33 59 17179869183 rfl rfl HT_ ?_; refine pu_ 61 34 60 34359738367 rfl rfl HT_ ?_; refine pu_ 61 35 61 68719476735 rfl rfl HT_ ?_; refine pu_ 61 36 62 137438953471 rfl rfl HT_ ?_; refine pu_ 61 37 63 274877906943 rfl rfl HT_ ?_; refine pu_ 61 38 64 549755813887 rfl rfl HT_ ?_; refine pu_ 61 39 65 1099511627775 rfl rfl HT_ ?_; refine pu_ 61 40 66 2199023255551 rfl rfl HT_ ?_; refine pu_ 61 41 67 4398046511103 rfl rfl HT_ ?_
    refine pu_ 61 42 68 8796093022207 rfl rfl HT_ ?_; refine pu_ 61 43 69 17592186044415 rfl rfl HT_ ?_; refine pu_ 61 44 70 35184372088831 rfl rfl HT_ ?_; refine pu_ 61 45 71 70368744177663 rfl rfl HT_ ?_; refine pu_ 61 46 72 140737488355327 rfl rfl HT_ ?_; refine pu_ 61 47 73 281474976710655 rfl rfl HT_ ?_; refine pu_ 61 48 74 562949953421311 rfl rfl HT_ ?_; refine pu_ 61 49 75 1125899906842623 rfl rfl HT_ ?_; refine pu_ 61 50 76 2251799813685247 rfl rfl HT_ ?_; refine pu_ 61 51 77 4503599627370495 rfl rfl HT_ ?_; refine pu_ 61 52 78 9007199254740991 rfl rfl HT_ ?_; refine pu_ 61 53 79 18014398509481983 rfl rfl HT_ ?_; refine pu_ 61 54 80 36028797018963967 rfl rfl HT_ ?_; refine pu_ 61 55 81 72057594037927935 rfl rfl HT_ ?_; refine pu_ 61 56 82 144115188075855871 rfl rfl HT_ ?_; refine pu_ 61 57 83 288230376151711743 rfl rfl HT_ ?_; refine pu_ 61 58 84 576460752303423487 rfl rfl HT_ ?_
    refine pu_ 61 59 85 1152921504606846975 rfl rfl HT_ ?_; refine pv_ 61 60 86 2305843009213693951 rfl rfl HT_ ?_
    refine done_ (done_of HT_.out (by kernel_rfl)) ?_
    try go_wp2
    go_meet
    case rel => exact ⟨_, (false), (by first | rfl | (simp; done) | (simp [*]; done)), H', ⟨by first | omega | exact Nat.le_refl _⟩, ⟨by repeat (first | (with_reducible first | exact HB.out | apply below_alloc | apply pw_below_drewN | apply below_drew1) | exact HB.out)⟩⟩
   rw [if_pos c16] at H
   have c16b0 : decide (0 < (t770.length : Int)) = true := decide_eq_true c16
   have c16b1 : decide (0 < t770.length) = true := decide_eq_true (by omega)
   clear c16
   (first | rw [c16b0] | (simp only [i64_w, i32_w]; rw [c16b0]) | skip)
   by_cases c17 : (t770.length : Int) = (wrap64 ((t764.length : Int) + (t765.length : Int)))
   rotate_left
   ·
    rw [if_neg c17] at H
    exact absurd H (by simp)
   rw [if_pos c17] at H
   have c17b0 : ((t770.length : Int) == (wrap64 ((t764.length : Int) + (t765.length : Int)))) = true := beq_iff_eq.mpr c17
   have c17b1 : ((t770.length : Int) != (wrap64 ((t764.length : Int) + (t765.length : Int)))) = false := bne_eq_false_iff_eq.mpr c17
   clear c17
   replace H := Option.bind_eq_some_iff.mp H
   obtain ⟨t776, A180, H⟩ := H
   replace H : (if t776 = (t764.length : Int) then ((impl_CountOf.f k t770 t765).bind fun t777 => (if t777 = (t765.length : Int) then ((impl_IsFairOrder.f k t770 t764).bind fun t778 => (if t778 = true then ((impl_IsFairOrder.f k t770 t765).bind fun t779 => (if t779 = true then ((impl_RightOfReply.f k t770 t764).bind fun t780 => (if 0 ≤ (wrap64 ((t765.length : Int) - 1)) then (if (wrap64 ((t765.length : Int) - 1)) < (t765.length : Int) then (if 0 ≤ (wrap64 ((t764.length : Int) - 1)) then (if (wrap64 ((t764.length : Int) - 1)) < (t764.length : Int) then ((laws_sameInts.f k t780 (([rd t765 (wrap64 ((t765.length : Int) - 1)), rd t764 (wrap64 ((t764.length : Int) - 1))] : List Int))).bind fun t788 => (laws_FnOrders.j0 k l0 (!t788))) else (none)) else (none)) else (none)) else (none))) else (none))) else (none))) else (none))) else (none)) = some r := H
   have A18 := Aside0.mk A180
   clear A180
   by_cases c19 : t776 = (t764.length : Int)
   rotate_left
   ·
    rw [if_neg c19] at H
    exact absurd H (by simp)
   rw [if_pos c19] at H
   have c19b0 : (t776 == (t764.length : Int)) = true := beq_iff_eq.mpr c19
   have c19b1 : (t776 != (t764.length : Int)) = false := bne_eq_false_iff_eq.mpr c19
   clear c19
   replace H := Option.bind_eq_some_iff.mp H
   obtain ⟨t777, A200, H⟩ := H
   replace H : (if t777 = (t765.length : Int) then ((impl_IsFairOrder.f k t770 t764).bind fun t778 => (if t778 = true then ((impl_IsFairOrder.f k t770 t765).bind fun t779 => (if t779 = true then ((impl_RightOfReply.f k t770 t764).bind fun t780 => (if 0 ≤ (wrap64 ((t765.length : Int) - 1)) then (if (wrap64 ((t765.length : Int) - 1)) < (t765.length : Int) then (if 0 ≤ (wrap64 ((t764.length : Int) - 1)) then (if (wrap64 ((t764.length : Int) - 1)) < (t764.length : Int) then ((laws_sameInts.f k t780 (([rd t765 (wrap64 ((t765.length : Int) - 1)), rd t764 (wrap64 ((t764.length : Int) - 1))] : List Int))).bind fun t788 => (laws_FnOrders.j0 k l0 (!t788))) else (none)) else (none)) else (none)) else (none))) else (none))) else (none))) else (none)) = some r := H
   have A20 := Aside0.mk A200
   clear A200
   by_cases c21 : t777 = (t765.length : Int)
   rotate_left
   ·
    rw [if_neg c21] at H
    exact absurd H (by simp)
   rw [if_pos c21] at H
   have c21b0 : (t777 == (t765.length : Int)) = true := beq_iff_eq.mpr c21
   have c21b1 : (t777 != (t765.length : Int)) = false := bne_eq_false_iff_eq.mpr c21
   clear c21
   replace H := Option.bind_eq_some_iff.mp H
   obtain ⟨t778, A220, H⟩ := H
   replace H : (if t778 = true then ((impl_IsFairOrder.f k t770 t765).bind fun t779 => (if t779 = true then ((impl_RightOfReply.f k t770 t764).bind fun t780 => (if 0 ≤ (wrap64 ((t765.length : Int) - 1)) then (if (wrap64 ((t765.length : Int) - 1)) < (t765.length : Int) then (if 0 ≤ (wrap64 ((t764.length : Int) - 1)) then (if (wrap64 ((t764.length : Int) - 1)) < (t764.length : Int) then ((laws_sameInts.f k t780 (([rd t765 (wrap64 ((t765.length : Int) - 1)), rd t764 (wrap64 ((t764.length : Int) - 1))] : List Int))).bind fun t788 => (laws_FnOrders.j0 k l0 (!t788))) else (none)) else (none)) else (none)) else (none))) else (none))) else (none)) = some r := H
   have A22 := Aside0.mk A220
   clear A220
   by_cases c23 : t778 = true
   rotate_left
   ·
    rw [if_neg c23] at H
    exact absurd H (by simp)
   subst c23
   have H1 : ((impl_IsFairOrder.f k t770 t765).bind fun t779 => (if t779 = true then ((impl_RightOfReply.f k t770 t764).bind fun t780 => (if 0 ≤ (wrap64 ((t765.length : Int) - 1)) then (if (wrap64 ((t765.length : Int) - 1)) < (t765.length : Int) then (if 0 ≤ (wrap64 ((t764.length : Int) - 1)) then (if (wrap64 ((t764.length : Int) - 1)) < (t764.length : Int) then ((laws_sameInts.f k t780 (([rd t765 (wrap64 ((t765.length : Int) - 1)), rd t764 (wrap64 ((t764.length : Int) - 1))] : List Int))).bind fun t788 => (laws_FnOrders.j0 k l0 (!t788))) else (none)) else (none)) else (none)) else (none))) else (none))) = some r := by rw [if_pos rfl] at H; exact H
   clear H
   have H := H1
   clear H1
   replace H := Option.bind_eq_some_iff.mp H
   obtain ⟨t779, A240, H⟩ := H
   replace H : (if t779 = true then ((impl_RightOfReply.f k t770 t764).bind fun t780 => (if 0 ≤ (wrap64 ((t765.length : Int) - 1)) then (if (wrap64 ((t765.length : Int) - 1)) < (t765.length : Int) then (if 0 ≤ (wrap64 ((t764.length : Int) - 1)) then (if (wrap64 ((t764.length : Int) - 1)) < (t764.length : Int) then ((laws_sameInts.f k t780 (([rd t765 (wrap64 ((t765.length : Int) - 1)), rd t764 (wrap64 ((t764.length : Int) - 1))] : List Int))).bind fun t788 => (laws_FnOrders.j0 k l0 (!t788))) else (none)) else (none)) else (none)) else (none))) else (none)) = some r := H
   have A24 := Aside0.mk A240
   clear A240
   by_cases c25 : t779 = true
   rotate_left
   ·
    rw [if_neg c25] at H
    exact absurd H (by simp)
   subst c25
   have H1 : ((impl_RightOfReply.f k t770 t764).bind fun t780 => (if 0 ≤ (wrap64 ((t765.length : Int) - 1)) then (if (wrap64 ((t765.length : Int) - 1)) < (t765.length : Int) then (if 0 ≤ (wrap64 ((t764.length : Int) - 1)) then (if (wrap64 ((t764.length : Int) - 1)) < (t764.length : Int) then ((laws_sameInts.f k t780 (([rd t765 (wrap64 ((t765.length : Int) - 1)), rd t764 (wrap64 ((t764.length : Int) - 1))] : List Int))).bind fun t788 => (laws_FnOrders.j0 k l0 (!t788))) else (none)) else (none)) else (none)) else (none))) = some r := by rw [if_pos rfl] at H; exact H
   clear H
   have H := H1
   clear H1
   replace H := Option.bind_eq_some_iff.mp H
   obtain ⟨t780, A260, H⟩ := H
   replace H : (if 0 ≤ (wrap64 ((t765.length : Int) - 1)) then (if (wrap64 ((t765.length : Int) - 1)) < (t765.length : Int) then (if 0 ≤ (wrap64 ((t764.length : Int) - 1)) then (if (wrap64 ((t764.length : Int) - 1)) < (t764.length : Int) then ((laws_sameInts.f k t780 (([rd t765 (wrap64 ((t765.length : Int) - 1)), rd t764 (wrap64 ((t764.length : Int) - 1))] : List Int))).bind fun t788 => (laws_FnOrders.j0 k l0 (!t788))) else (none)) else (none)) else (none)) else (none)) = some r := H
   have A26 := Aside0.mk A260
   clear A260
   obtain ⟨ji27, hji27⟩ : ∃ j_ : Int, (wrap64 ((t765.length : Int) - 1)) = j_ := ⟨_, rfl⟩
   replace H : (if 0 ≤ (ji27) then (if (ji27) < (t765.length : Int) then (if 0 ≤ (wrap64 ((t764.length : Int) - 1)) then (if (wrap64 ((t764.length : Int) - 1)) < (t764.length : Int) then ((laws_sameInts.f k t780 (([rd t765 (ji27), rd t764 (wrap64 ((t764.length : Int) - 1))] : List Int))).bind fun t788 => (laws_FnOrders.j0 k l0 (!t788))) else (none)) else (none)) else (none)) else (none)) = some r := by first | (rw [hji27] at H; exact H) | (simp only [hji27] at H ⊢; exact H)
   (try rw [hji27] at A18)
   (try rw [hji27] at A20)
   (try rw [hji27] at A22)
   (try rw [hji27] at A24)
   (try rw [hji27] at A26)
   have hji27w : (IntKind.i64.wrap ((t765.length : Int) - 1)) = ji27 := (i64_w _).trans hji27
   by_cases c28 : 0 ≤ (ji27)
   rotate_left
   ·
    rw [if_neg c28] at H
    exact absurd H (by simp)
   rw [if_pos c28] at H
   have c28b0 : decide (0 ≤ (ji27)) = true := decide_eq_true c28
   clear c28
   by_cases c29 : (ji27) < (t765.length : Int)
   rotate_left
   ·
    rw [if_neg c29] at H
    exact absurd H (by simp)
   rw [if_pos c29] at H
   have c29b0 : decide ((ji27) < (t765.length : Int)) = true := decide_eq_true c29
   clear c29
   obtain ⟨ji30, hji30⟩ : ∃ j_ : Int, (wrap64 ((t764.length : Int) - 1)) = j_ := ⟨_, rfl⟩
   replace H : (if 0 ≤ (ji30) then (if (ji30) < (t764.length : Int) then ((laws_sameInts.f k t780 (([rd t765 (ji27), rd t764 (ji30)] : List Int))).bind fun t788 => (laws_FnOrders.j0 k l0 (!t788))) else (none)) else (none)) = some r := by first | (rw [hji30] at H; exact H) | (simp only [hji30] at H ⊢; exact H)
   (try rw [hji30] at A18)
   (try rw [hji30] at A20)
   (try rw [hji30] at A22)
   (try rw [hji30] at A24)
   (try rw [hji30] at A26)
   have hji30w : (IntKind.i64.wrap ((t764.length : Int) - 1)) = ji30 := (i64_w _).trans hji30
   by_cases c31 : 0 ≤ (ji30)
   rotate_left
   ·
    rw [if_neg c31] at H
    exact absurd H (by simp)
   rw [if_pos c31] at H
   have c31b0 : decide (0 ≤ (ji30)) = true := decide_eq_true c31
   clear c31
   by_cases c32 : (ji30) < (t764.length : Int)
   rotate_left
   ·
    rw [if_neg c32] at H
    exact absurd H (by simp)
   rw [if_pos c32] at H
   have c32b0 : decide ((ji30) < (t764.length : Int)) = true := decide_eq_true c32
   clear c32
   obtain ⟨y785, hy785⟩ : ∃ y_ : List Int, y_ = (([rd t765 (ji27), rd t764 (ji30)] : List Int)) := ⟨_, rfl⟩
   replace H : ((laws_sameInts.f k t780 y785).bind fun t788 => (laws_FnOrders.j0 k l0 (!t788))) = some r := by first | (rw [hy785]; with_reducible exact H) | (have H2_ := (Option.bind_some _ _).symm.trans H; rw [hy785]; with_reducible exact H2_) | (have H2_ := (Option.bind_some _ _).symm.trans H; with_reducible exact H2_) | with_reducible exact H | (rw [hy785]; exact H) | exact H
   have Ny785 := Aside0.mk hy785
   clear hy785
   replace H := Option.bind_eq_some_iff.mp H
   obtain ⟨t788, A330, H⟩ := H
   replace H : (laws_FnOrders.j0 k l0 (!t788)) = some r := H
   have A33 := Aside0.mk A330
   clear A330
   have H' := Aside0.mk H
   clear H
   try go_wp2
   have n0_ := Aside0.mk (Kd.R_drew HO767.out)
   have n1_ := Aside0.mk (Kd.R_drew HO769.out)
   have n2_ := Aside0.mk (Kd.R_drew HO772.out)
   have n3_ := Aside0.mk (Kd.R_drew HO775.out)
   have n4_ := Aside0.mk (below_drew1 HB.out)
   clear HO767
   clear HO769
   clear HO772
   clear HO775
   clear HB
   have HO767 := n0_
   have HO769 := n1_
   have HO772 := n2_
   have HO775 := n3_
   have HB := n4_
   clear n0_ n1_ n2_ n3_ n4_
   have p783 : 0 ≤ ((ji27) : Int) := of_decide_eq_true (by first | (with_reducible assumption) | assumption)
   have q783 : (ji27) < (t765.length : Int) := of_decide_eq_true (by first | (with_reducible assumption) | assumption)
   obtain ⟨ad783, e783, hx783_0⟩ := Kd.at_int (Kd.R_reads' HO769.out).2.2 (ji27) p783 q783
   cases e783
   replace p783 := eq_true p783
   replace q783 := eq_true q783
   have p784 : 0 ≤ ((ji30) : Int) := of_decide_eq_true (by first | (with_reducible assumption) | assumption)
   have q784 : (ji30) < (t764.length : Int) := of_decide_eq_true (by first | (with_reducible assumption) | assumption)
   obtain ⟨ad784, e784, hx784_0⟩ := Kd.at_int (Kd.R_reads' HO767.out).2.2 (ji30) p784 q784
   cases e784
   replace p784 := eq_true p784
   replace q784 := eq_true q784
   refine start_ (n := 61) (S := fun w' => w'.cell? (ad783.add ((ji27)).toNat) = some (.int .i64 (rd t765 (ji27))) ∧ w'.cell? (ad784.add ((ji30)).toNat) = some (.int .i64 (rd t764 (ji30)))) (ds := []) (bv 61 0) (by kernel_rfl) rfl rfl ⟨hx783_0, hx784_0⟩ (fun hHeld => ?_); refine with_tabW laws_FnOrders.tab7 laws_FnOrders.bits7 (fun HT_ HW_ => ?_)
   generalize w14.drew = w34 at HO767 HO769 HO772 HO775 HB hx783_0 hx784_0 hHeld ⊢
   refine pv_ 61 0 26 1 rfl rfl HT_ ?_; refine pv_ 61 1 27 3 rfl rfl HT_ ?_; refine pv_ 61 2 28 7 rfl rfl HT_ ?_; refine pv_ 61 3 29 15 rfl rfl HT_ ?_; refine pv_ 61 4 30 31 rfl rfl HT_ ?_; refine pv_ 61 5 31 63 rfl rfl HT_ ?_; refine pv_ 61 6 32 127 rfl rfl HT_ ?_; refine pv_ 61 7 33 255 rfl rfl HT_ ?_; refine pv_ 61 8 34 511 rfl rfl HT_ ?_; refine pv_ 61 9 35 1023 rfl rfl HT_ ?_; refine pv_ 61 10 36 2047 rfl rfl HT_ ?_; refine pv_ 61 11 37 4095 rfl rfl HT_ ?_; refine pv_ 61 12 38 8191 rfl rfl HT_ ?_; refine pv_ 61 13 39 16383 rfl rfl HT_ ?_; refine pv_ 61 14 40 32767 rfl rfl HT_ ?_; refine pv_ 61 16 42 98303 rfl rfl HT_ ?_; refine pv_ 61 17 43 229375 rfl rfl HT_ ?_
   refine one_ (i := 15) (N := some 41) (bv 61 262143) rfl rfl (one_of HT_.out (by kernel_rfl)) (by decide) (fun K hK => ?_)
   refine goes_ Try.func40 (by kernel_rfl) rfl #[.slice Ao13 t770.length co13, .slice (some ad784) t764.length co10] (by rfl) rfl rfl (by (try simp only [List.map_toArray, List.map_cons, List.map_nil]); first | done | rfl | (simp only [List.length_drop, List.length_take]; rfl)) ?_
   with_reducible refine (impl_CountOf.calls k _ _ t770 _ _ t764 t776 _ ?side1 ?side2 ?side3 ?side4 A18.out).mono ?_
   (case side1 => repeat (first | exact (Kd.R_reads' HO772.out).2.2 | (with_reducible refine Kd.C_alloc ?_ _) | (with_reducible refine Kd.C_drewN ?_ _) | (with_reducible refine Kd.C_drew ?_)))
   (case side2 => exact (Kd.R_reads' HO772.out).2.1)
   (case side3 => repeat (first | exact (Kd.R_reads' HO767.out).2.2 | (with_reducible refine Kd.C_alloc ?_ _) | (with_reducible refine Kd.C_drewN ?_ _) | (with_reducible refine Kd.C_drew ?_)))
   (case side4 => exact (Kd.R_reads' HO767.out).2.1)
   rintro e w' ⟨rfl, ⟨nd, rfl⟩⟩
   refine ⟨_, rfl, ?_⟩
   refine hK.out _ _ ⟨hHeld.1, hHeld.2⟩ (fun hHeld => ?_)
   clear hK K
   refine nm_ 41 ?_
   refine pv_ 61 18 44 524287 rfl rfl HT_ ?_; refine pv_ 61 19 45 1048575 rfl rfl HT_ ?_; refine pv_ 61 20 46 2097151 rfl rfl HT_ ?_; refine pv_ 61 21 47 4194303 rfl rfl HT_ ?_; refine pv_ 61 22 48 8388607 rfl rfl HT_ ?_; refine pv_ 61 24 50 25165823 rfl rfl HT_ ?_; refine pv_ 61 25 51 58720255 rfl rfl HT_ ?_
   refine one_ (i := 23) (N := some 49) (bv 61 67108863) rfl rfl (one_of HT_.out (by kernel_rfl)) (by decide) (fun K hK => ?_)
   refine goes_ Try.func40 (by kernel_rfl) rfl #[.slice Ao13 t770.length co13, .slice (some ad783) t765.length co11] (by rfl) rfl rfl (by (try simp only [List.map_toArray, List.map_cons, List.map_nil]); first | done | rfl | (simp only [List.length_drop, List.length_take]; rfl)) ?_
   with_reducible refine (impl_CountOf.calls k _ _ t770 _ _ t765 t777 _ ?side1 ?side2 ?side3 ?side4 A20.out).mono ?_
   (case side1 => repeat (first | exact (Kd.R_reads' HO772.out).2.2 | (with_reducible refine Kd.C_alloc ?_ _) | (with_reducible refine Kd.C_drewN ?_ _) | (with_reducible refine Kd.C_drew ?_)))
   (case side2 => exact (Kd.R_reads' HO772.out).2.1)
   (case side3 => repeat (first | exact (Kd.R_reads' HO769.out).2.2 | (with_reducible refine Kd.C_alloc ?_ _) | (with_reducible refine Kd.C_drewN ?_ _) | (with_reducible refine Kd.C_drew ?_)))
   (case side4 => exact (Kd.R_reads' HO769.out).2.1)
   rintro e w' ⟨rfl, ⟨nd, rfl⟩⟩
   refine ⟨_, rfl, ?_⟩
   refine hK.out _ _ ⟨hHeld.1, hHeld.2⟩ (fun hHeld => ?_)
   clear hK K
   refine nm_ 49 ?_
   refine pv_ 61 26 52 134217727 rfl rfl HT_ ?_; refine pv_ 61 27 53 268435455 rfl rfl HT_ ?_; refine pv_ 61 28 54 536870911 rfl rfl HT_ ?_; refine pv_ 61 29 55 1073741823 rfl rfl HT_ ?_; refine pv_ 61 30 56 2147483647 rfl rfl HT_ ?_
   refine one_ (i := 31) (N := some 57) (bv 61 4294967295) rfl rfl (one_of HT_.out (by kernel_rfl)) (by decide) (fun K hK => ?_)
   refine goes_ Try.func41 (by kernel_rfl) rfl #[.slice Ao13 t770.length co13, .slice (some ad784) t764.length co10] (by rfl) rfl rfl (by (try simp only [List.map_toArray, List.map_cons, List.map_nil]); first | done | rfl | (simp only [List.length_drop, List.length_take]; rfl)) ?_
   with_reducible refine (impl_IsFairOrder.calls k _ _ t770 _ _ t764 true _ ?side1 ?side2 ?side3 ?side4 A22.out).mono ?_
   (case side1 => repeat (first | exact (Kd.R_reads' HO772.out).2.2 | (with_reducible refine Kd.C_alloc ?_ _) | (with_reducible refine Kd.C_drewN ?_ _) | (with_reducible refine Kd.C_drew ?_)))
   (case side2 => exact (Kd.R_reads' HO772.out).2.1)
   (case side3 => repeat (first | exact (Kd.R_reads' HO767.out).2.2 | (with_reducible refine Kd.C_alloc ?_ _) | (with_reducible refine Kd.C_drewN ?_ _) | (with_reducible refine Kd.C_drew ?_)))
   (case side4 => exact (Kd.R_reads' HO767.out).2.1)
   rintro e w' ⟨rfl, ⟨nd, rfl⟩⟩
   refine ⟨_, rfl, ?_⟩
   refine hK.out _ _ ⟨hHeld.1, hHeld.2⟩ (fun hHeld => ?_)
   clear hK K
   refine nm_ 57 ?_
   refine pv_ 61 32 58 8589934591 rfl rfl HT_ ?_; refine pv_ 61 33 59 17179869183 rfl rfl HT_ ?_; refine pv_ 61 34 60 34359738367 rfl rfl HT_ ?_; refine pv_ 61 35 61 68719476735 rfl rfl HT_ ?_; refine pv_ 61 36 62 137438953471 rfl rfl HT_ ?_
   refine one_ (i := 37) (N := some 63) (bv 61 274877906943) rfl rfl (one_of HT_.out (by kernel_rfl)) (by decide) (fun K hK => ?_)
   refine goes_ Try.func41 (by kernel_rfl) rfl #[.slice Ao13 t770.length co13, .slice (some ad783) t765.length co11] (by rfl) rfl rfl (by (try simp only [List.map_toArray, List.map_cons, List.map_nil]); first | done | rfl | (simp only [List.length_drop, List.length_take]; rfl)) ?_
   with_reducible refine (impl_IsFairOrder.calls k _ _ t770 _ _ t765 true _ ?side1 ?side2 ?side3 ?side4 A24.out).mono ?_
   (case side1 => repeat (first | exact (Kd.R_reads' HO772.out).2.2 | (with_reducible refine Kd.C_alloc ?_ _) | (with_reducible refine Kd.C_drewN ?_ _) | (with_reducible refine Kd.C_drew ?_)))
   (case side2 => exact (Kd.R_reads' HO772.out).2.1)
   (case side3 => repeat (first | exact (Kd.R_reads' HO769.out).2.2 | (with_reducible refine Kd.C_alloc ?_ _) | (with_reducible refine Kd.C_drewN ?_ _) | (with_reducible refine Kd.C_drew ?_)))
   (case side4 => exact (Kd.R_reads' HO769.out).2.1)
   rintro e w' ⟨rfl, ⟨nd, rfl⟩⟩
   refine ⟨_, rfl, ?_⟩
   refine hK.out _ _ ⟨hHeld.1, hHeld.2⟩ (fun hHeld => ?_)
   clear hK K
   refine nm_ 63 ?_
   refine pv_ 61 38 64 549755813887 rfl rfl HT_ ?_; refine pv_ 61 39 65 1099511627775 rfl rfl HT_ ?_; refine pv_ 61 40 66 2199023255551 rfl rfl HT_ ?_; refine pv_ 61 41 67 4398046511103 rfl rfl HT_ ?_; refine pv_ 61 42 68 8796093022207 rfl rfl HT_ ?_; refine pv_ 61 44 70 26388279066623 rfl rfl HT_ ?_; refine pv_ 61 45 71 61572651155455 rfl rfl HT_ ?_; refine pv_ 61 46 72 131941395333119 rfl rfl HT_ ?_; refine pv_ 61 47 73 272678883688447 rfl rfl HT_ ?_; refine pv_ 61 48 74 554153860399103 rfl rfl HT_ ?_; refine pv_ 61 50 76 1680053767241727 rfl rfl HT_ ?_; refine pv_ 61 51 77 3931853580926975 rfl rfl HT_ ?_; refine pv_ 61 52 78 8435453208297471 rfl rfl HT_ ?_; refine pv_ 61 53 79 17442652463038463 rfl rfl HT_ ?_; refine pv_ 61 54 80 35457050972520447 rfl rfl HT_ ?_
   refine tv_ 61 49 75 36020000925941759 rfl rfl HT_ HW_ hHeld (by rintro w' ⟨s0, s1⟩; go_simp; with_reducible rfl) ?_
   refine tv_ 61 55 81 72048797944905727 rfl rfl HT_ HW_ hHeld (by rintro w' ⟨s0, s1⟩; go_simp; with_reducible rfl) ?_
   refine join_ (σ := Value × Value) 4 (bv 61 144115188075855871) (fun s_ => [(69, s_.1), (82, s_.2)]) (fun s_ w' => (w'.cell? (ad783.add ((ji27)).toNat) = some (.int .i64 (rd t765 (ji27))) ∧ w'.cell? (ad784.add ((ji30)).toNat) = some (.int .i64 (rd t764 (ji30)))) ∧ (Kd.R (Kd.int .i64) 3 w' w.heap.size (fun k_ => some k_ ≠ (.slice (some ad783) t765.length co11 : Value).ownBlock ∧ some k_ ≠ (.slice Ao13 t770.length co13 : Value).ownBlock ∧ some k_ ≠ (.slice Ao15 t773.length co15 : Value).ownBlock ∧ some k_ ≠ (s_.1 : Value).ownBlock ∧ some k_ ≠ (s_.2 : Value).ownBlock) (.slice (some ad784) t764.length co10) t764) ∧ (Kd.R (Kd.int .i64) 3 w' w.heap.size (fun k_ => some k_ ≠ (.slice (some ad784) t764.length co10 : Value).ownBlock ∧ some k_ ≠ (.slice Ao13 t770.length co13 : Value).ownBlock ∧ some k_ ≠ (.slice Ao15 t773.length co15 : Value).ownBlock ∧ some k_ ≠ (s_.1 : Value).ownBlock ∧ some k_ ≠ (s_.2 : Value).ownBlock) (.slice (some ad783) t765.length co11) t765) ∧ (Kd.R (Kd.int .i64) 3 w' w.heap.size (fun k_ => some k_ ≠ (.slice (some ad784) t764.length co10 : Value).ownBlock ∧ some k_ ≠ (.slice (some ad783) t765.length co11 : Value).ownBlock ∧ some k_ ≠ (.slice Ao15 t773.length co15 : Value).ownBlock ∧ some k_ ≠ (s_.1 : Value).ownBlock ∧ some k_ ≠ (s_.2 : Value).ownBlock) (.slice Ao13 t770.length co13) t770) ∧ (Kd.R (Kd.int .i64) 3 w' w.heap.size (fun k_ => some k_ ≠ (.slice (some ad784) t764.length co10 : Value).ownBlock ∧ some k_ ≠ (.slice (some ad783) t765.length co11 : Value).ownBlock ∧ some k_ ≠ (.slice Ao13 t770.length co13 : Value).ownBlock ∧ some k_ ≠ (s_.1 : Value).ownBlock ∧ some k_ ≠ (s_.2 : Value).ownBlock) (.slice Ao15 t773.length co15) t773) ∧ (Kd.R (Kd.int .i64) 3 w' w.heap.size (fun k_ => some k_ ≠ (.slice (some ad784) t764.length co10 : Value).ownBlock ∧ some k_ ≠ (.slice (some ad783) t765.length co11 : Value).ownBlock ∧ some k_ ≠ (.slice Ao13 t770.length co13 : Value).ownBlock ∧ some k_ ≠ (.slice Ao15 t773.length co15 : Value).ownBlock ∧ some k_ ≠ (s_.2 : Value).ownBlock) s_.1 t780) ∧ (Kd.R (Kd.int .i64) 3 w' w.heap.size (fun k_ => some k_ ≠ (.slice (some ad784) t764.length co10 : Value).ownBlock ∧ some k_ ≠ (.slice (some ad783) t765.length co11 : Value).ownBlock ∧ some k_ ≠ (.slice Ao13 t770.length co13 : Value).ownBlock ∧ some k_ ≠ (.slice Ao15 t773.length co15 : Value).ownBlock ∧ some k_ ≠ (s_.1 : Value).ownBlock) s_.2 y785) ∧ (Below w.heap.size w w')) ?_ ?_
   rotate_left
   ·
    intro hCont
    refine two_ (i := 43) (j := 56) (Ni := some 69) (Nj := some 82) (bv 61 72057594037927935) (bv 61 144106391982833663) rfl rfl rfl rfl (two_of HT_.out (by kernel_rfl)) (by decide) (by decide) (fun K hK => ?_) (fun K hK => ?_)
    ·
     skip
     refine goes_ Try.func43 (by kernel_rfl) rfl #[.slice Ao13 t770.length co13, .slice (some ad784) t764.length co10] (by rfl) rfl rfl (by (try simp only [List.map_toArray, List.map_cons, List.map_nil]); first | done | rfl | (simp only [List.length_drop, List.length_take]; rfl)) ?_
     with_reducible refine (impl_RightOfReply.calls k _ _ t770 _ _ t764 t780 _ ?side1 ?side2 ?side3 ?side4 A26.out).mono ?_
     (case side1 => repeat (first | exact (Kd.R_reads' HO772.out).2.2 | (with_reducible refine Kd.C_alloc ?_ _) | (with_reducible refine Kd.C_drewN ?_ _) | (with_reducible refine Kd.C_drew ?_)))
     (case side2 => exact (Kd.R_reads' HO772.out).2.1)
     (case side3 => repeat (first | exact (Kd.R_reads' HO767.out).2.2 | (with_reducible refine Kd.C_alloc ?_ _) | (with_reducible refine Kd.C_drewN ?_ _) | (with_reducible refine Kd.C_drew ?_)))
     (case side4 => exact (Kd.R_reads' HO767.out).2.1)
     rintro e w35 ⟨v781, rfl, ho0, hb⟩
     have HS0_ := (hb.cell (World.block_lt_of_cell? _ _ (hHeld.1))).trans (hHeld.1)
     have HS1_ := (hb.cell (World.block_lt_of_cell? _ _ (hHeld.2))).trans (hHeld.2)
     refine ⟨_, rfl, ?_⟩
     have n0_ := Aside0.mk (Kd.R_elder' (by (with_reducible repeat (first | apply Kd.R_alloc | apply Kd.R_drewN | apply Kd.R_drew)); exact HO767.out) (Kd.R_base ho0) hb)
     have n1_ := Aside0.mk (Kd.R_elder' (by (with_reducible repeat (first | apply Kd.R_alloc | apply Kd.R_drewN | apply Kd.R_drew)); exact HO769.out) (Kd.R_base ho0) hb)
     have n2_ := Aside0.mk (Kd.R_elder' (by (with_reducible repeat (first | apply Kd.R_alloc | apply Kd.R_drewN | apply Kd.R_drew)); exact HO772.out) (Kd.R_base ho0) hb)
     have n3_ := Aside0.mk (Kd.R_elder' (by (with_reducible repeat (first | apply Kd.R_alloc | apply Kd.R_drewN | apply Kd.R_drew)); exact HO775.out) (Kd.R_base ho0) hb)
     have n4_ := Aside0.mk (Kd.R_lower (Kd.R_new' (Kd.R_new' (Kd.R_new' (Kd.R_new' ho0 (Kd.R_lt (by (with_reducible repeat (first | apply Kd.R_alloc | apply Kd.R_drewN | apply Kd.R_drew)); exact HO767.out))) (Kd.R_lt (by (with_reducible repeat (first | apply Kd.R_alloc | apply Kd.R_drewN | apply Kd.R_drew)); exact HO769.out))) (Kd.R_lt (by (with_reducible repeat (first | apply Kd.R_alloc | apply Kd.R_drewN | apply Kd.R_drew)); exact HO772.out))) (Kd.R_lt (by (with_reducible repeat (first | apply Kd.R_alloc | apply Kd.R_drewN | apply Kd.R_drew)); exact HO775.out))) (below_size (by repeat (first | (with_reducible first | exact HB.out | apply below_alloc | apply pw_below_drewN | apply below_drew1) | exact HB.out))))
     have n5_ := Aside0.mk (below_step (by repeat (first | (with_reducible first | exact HB.out | apply below_alloc | apply pw_below_drewN | apply below_drew1) | exact HB.out)) hb)
     clear HO767
     clear HO769
     clear HO772
     clear HO775
     clear HB
     have HO767 := n0_
     have HO769 := n1_
     have HO772 := n2_
     have HO775 := n3_
     have HO782 := n4_
     have HB := n5_
     clear n0_ n1_ n2_ n3_ n4_ n5_
     (try clear hb)
     (try clear hb2)
     (try clear hk)
     (try clear hi)
     (try clear ho0)
     refine hK.out _ _ ⟨HS0_, HS1_⟩ (fun hHeld => ?_)
     clear hK K
     refine nm_ 69 ?_
     refine one_ (i := 56) (N := some 82) (bv 61 144115188075855871) rfl rfl (one_of HT_.out (by kernel_rfl)) (by decide) (fun K hK => ?_)
     refine Kd.R_lit_step (Kd.int .i64) _ 3 ?hg (N := 82) ?hd (xs := ([rd t765 (ji27), rd t764 (ji30)] : List Int)) (inner := [.int .i64 (rd t765 (ji27)), .int .i64 (rd t764 (ji30))]) (ok := fun _ => True) (okp := fun _ => True) ?hr ?hp (fun _ hk => hk) trivial (Below.refl _ _) (Nat.le_refl _) (by simp) ?_; (case hd => rfl); (case hg => rfl); (case hr => first | (go_simp; done) | (go_simp; rfl)); (case hp => exact (Reps.one (show Kd.M (Kd.int .i64) _ _ _ (rd t765 (ji27)) [.int .i64 (rd t765 (ji27))] from rfl) (Reps.one (show Kd.M (Kd.int .i64) _ _ _ (rd t764 (ji30)) [.int .i64 (rd t764 (ji30))] from rfl) (Reps.none _ _))))
     intro v786 w36 ho37 hb hg_ hnew_
     have HS0_ := (hb.cell (World.block_lt_of_cell? _ _ (hHeld.1))).trans (hHeld.1)
     have HS1_ := (hb.cell (World.block_lt_of_cell? _ _ (hHeld.2))).trans (hHeld.2)
     clear hg_ hnew_
     (first | rw [← Ny785.out] at ho37 | (simp only [Int.reduceToNat] at ho37; rw [← Ny785.out] at ho37))
     have n0_ := Aside0.mk (Kd.R_elder' (by (with_reducible repeat (first | apply Kd.R_alloc | apply Kd.R_drewN | apply Kd.R_drew)); exact HO767.out) (Kd.R_base ho37) hb)
     have n1_ := Aside0.mk (Kd.R_elder' (by (with_reducible repeat (first | apply Kd.R_alloc | apply Kd.R_drewN | apply Kd.R_drew)); exact HO769.out) (Kd.R_base ho37) hb)
     have n2_ := Aside0.mk (Kd.R_elder' (by (with_reducible repeat (first | apply Kd.R_alloc | apply Kd.R_drewN | apply Kd.R_drew)); exact HO772.out) (Kd.R_base ho37) hb)
     have n3_ := Aside0.mk (Kd.R_elder' (by (with_reducible repeat (first | apply Kd.R_alloc | apply Kd.R_drewN | apply Kd.R_drew)); exact HO775.out) (Kd.R_base ho37) hb)
     have n4_ := Aside0.mk (Kd.R_elder' (by (with_reducible repeat (first | apply Kd.R_alloc | apply Kd.R_drewN | apply Kd.R_drew)); exact HO782.out) (Kd.R_base ho37) hb)
     have n5_ := Aside0.mk (Kd.R_lower (Kd.R_new' (Kd.R_new' (Kd.R_new' (Kd.R_new' (Kd.R_new' ho37 (Kd.R_lt (by (with_reducible repeat (first | apply Kd.R_alloc | apply Kd.R_drewN | apply Kd.R_drew)); exact HO767.out))) (Kd.R_lt (by (with_reducible repeat (first | apply Kd.R_alloc | apply Kd.R_drewN | apply Kd.R_drew)); exact HO769.out))) (Kd.R_lt (by (with_reducible repeat (first | apply Kd.R_alloc | apply Kd.R_drewN | apply Kd.R_drew)); exact HO772.out))) (Kd.R_lt (by (with_reducible repeat (first | apply Kd.R_alloc | apply Kd.R_drewN | apply Kd.R_drew)); exact HO775.out))) (Kd.R_lt (by (with_reducible repeat (first | apply Kd.R_alloc | apply Kd.R_drewN | apply Kd.R_drew)); exact HO782.out))) (below_size (by repeat (first | (with_reducible first | exact HB.out | apply below_alloc | apply pw_below_drewN | apply below_drew1) | exact HB.out))))
     have n6_ := Aside0.mk (below_step (by repeat (first | (with_reducible first | exact HB.out | apply below_alloc | apply pw_below_drewN | apply below_drew1) | exact HB.out)) hb)
     clear HO767
     clear HO769
     clear HO772
     clear HO775
     clear HO782
     clear HB
     have HO767 := n0_
     have HO769 := n1_
     have HO772 := n2_
     have HO775 := n3_
     have HO782 := n4_
     have HO787 := n5_
     have HB := n6_
     clear n0_ n1_ n2_ n3_ n4_ n5_ n6_
     clear hb ho37
     refine hK.out _ _ ⟨HS0_, HS1_⟩ (fun hHeld => ?_)
     clear hK K
     refine nm_ 82 ?_
     exact norm_ (by simp only [putAll, Act.put, Z1, Z2, Z3]) (hCont (v781, v786) _ ⟨hHeld, (by (with_reducible repeat (first | apply Kd.R_alloc | apply Kd.R_drewN | apply Kd.R_drew)); exact Kd.R_mono HO767.out (fun _ hk => ⟨hk.1.1.1.1, ⟨hk.1.1.1.2, ⟨hk.1.1.2, ⟨hk.1.2, hk.2⟩⟩⟩⟩)), (by (with_reducible repeat (first | apply Kd.R_alloc | apply Kd.R_drewN | apply Kd.R_drew)); exact Kd.R_mono HO769.out (fun _ hk => ⟨hk.1.1.1.1, ⟨hk.1.1.1.2, ⟨hk.1.1.2, ⟨hk.1.2, hk.2⟩⟩⟩⟩)), (by (with_reducible repeat (first | apply Kd.R_alloc | apply Kd.R_drewN | apply Kd.R_drew)); exact Kd.R_mono HO772.out (fun _ hk => ⟨hk.1.1.1.1.2, ⟨hk.1.1.1.2, ⟨hk.1.1.2, ⟨hk.1.2, hk.2⟩⟩⟩⟩)), (by (with_reducible repeat (first | apply Kd.R_alloc | apply Kd.R_drewN | apply Kd.R_drew)); exact Kd.R_mono HO775.out (fun _ hk => ⟨hk.1.1.1.1.2, ⟨hk.1.1.1.2, ⟨hk.1.1.2, ⟨hk.1.2, hk.2⟩⟩⟩⟩)), (by (with_reducible repeat (first | apply Kd.R_alloc | apply Kd.R_drewN | apply Kd.R_drew)); exact Kd.R_mono HO782.out (fun _ hk => ⟨hk.1.1.1.1.2, ⟨hk.1.1.1.2, ⟨hk.1.1.2, ⟨hk.1.2, hk.2⟩⟩⟩⟩)), (by (with_reducible repeat (first | apply Kd.R_alloc | apply Kd.R_drewN | apply Kd.R_drew)); exact Kd.R_mono HO787.out (fun _ hk => ⟨hk.1.1.1.1.2, ⟨hk.1.1.1.2, ⟨hk.1.1.2, ⟨hk.1.2, hk.2⟩⟩⟩⟩)), (by repeat (first | (with_reducible first | exact HB.out | apply below_alloc | apply pw_below_drewN | apply below_drew1) | exact HB.out))⟩)
    ·
     skip
     refine Kd.R_lit_step (Kd.int .i64) _ 3 ?hg (N := 82) ?hd (xs := ([rd t765 (ji27), rd t764 (ji30)] : List Int)) (inner := [.int .i64 (rd t765 (ji27)), .int .i64 (rd t764 (ji30))]) (ok := fun _ => True) (okp := fun _ => True) ?hr ?hp (fun _ hk => hk) trivial (Below.refl _ _) (Nat.le_refl _) (by simp) ?_; (case hd => rfl); (case hg => rfl); (case hr => first | (go_simp; done) | (go_simp; rfl)); (case hp => exact (Reps.one (show Kd.M (Kd.int .i64) _ _ _ (rd t765 (ji27)) [.int .i64 (rd t765 (ji27))] from rfl) (Reps.one (show Kd.M (Kd.int .i64) _ _ _ (rd t764 (ji30)) [.int .i64 (rd t764 (ji30))] from rfl) (Reps.none _ _))))
     intro v786 w35 ho36 hb hg_ hnew_
     have HS0_ := (hb.cell (World.block_lt_of_cell? _ _ (hHeld.1))).trans (hHeld.1)
     have HS1_ := (hb.cell (World.block_lt_of_cell? _ _ (hHeld.2))).trans (hHeld.2)
     clear hg_ hnew_
     (first | rw [← Ny785.out] at ho36 | (simp only [Int.reduceToNat] at ho36; rw [← Ny785.out] at ho36))
     have n0_ := Aside0.mk (Kd.R_elder' (by (with_reducible repeat (first | apply Kd.R_alloc | apply Kd.R_drewN | apply Kd.R_drew)); exact HO767.out) (Kd.R_base ho36) hb)
     have n1_ := Aside0.mk (Kd.R_elder' (by (with_reducible repeat (first | apply Kd.R_alloc | apply Kd.R_drewN | apply Kd.R_drew)); exact HO769.out) (Kd.R_base ho36) hb)
     have n2_ := Aside0.mk (Kd.R_elder' (by (with_reducible repeat (first | apply Kd.R_alloc | apply Kd.R_drewN | apply Kd.R_drew)); exact HO772.out) (Kd.R_base ho36) hb)
     have n3_ := Aside0.mk (Kd.R_elder' (by (with_reducible repeat (first | apply Kd.R_alloc | apply Kd.R_drewN | apply Kd.R_drew)); exact HO775.out) (Kd.R_base ho36) hb)
     have n4_ := Aside0.mk (Kd.R_lower (Kd.R_new' (Kd.R_new' (Kd.R_new' (Kd.R_new' ho36 (Kd.R_lt (by (with_reducible repeat (first | apply Kd.R_alloc | apply Kd.R_drewN | apply Kd.R_drew)); exact HO767.out))) (Kd.R_lt (by (with_reducible repeat (first | apply Kd.R_alloc | apply Kd.R_drewN | apply Kd.R_drew)); exact HO769.out))) (Kd.R_lt (by (with_reducible repeat (first | apply Kd.R_alloc | apply Kd.R_drewN | apply Kd.R_drew)); exact HO772.out))) (Kd.R_lt (by (with_reducible repeat (first | apply Kd.R_alloc | apply Kd.R_drewN | apply Kd.R_drew)); exact HO775.out))) (below_size (by repeat (first | (with_reducible first | exact HB.out | apply below_alloc | apply pw_below_drewN | apply below_drew1) | exact HB.out))))
     have n5_ := Aside0.mk (below_step (by repeat (first | (with_reducible first | exact HB.out | apply below_alloc | apply pw_below_drewN | apply below_drew1) | exact HB.out)) hb)
     clear HO767
     clear HO769
     clear HO772
     clear HO775
     clear HB
     have HO767 := n0_
     have HO769 := n1_
     have HO772 := n2_
     have HO775 := n3_
     have HO787 := n4_
     have HB := n5_
     clear n0_ n1_ n2_ n3_ n4_ n5_
     clear hb ho36
     refine hK.out _ _ ⟨HS0_, HS1_⟩ (fun hHeld => ?_)
     clear hK K
     refine nm_ 82 ?_
     refine one_ (i := 43) (N := some 69) (bv 61 144115188075855871) rfl rfl (one_of HT_.out (by kernel_rfl)) (by decide) (fun K hK => ?_)
     refine goes_ Try.func43 (by kernel_rfl) rfl #[.slice Ao13 t770.length co13, .slice (some ad784) t764.length co10] (by rfl) rfl rfl (by (try simp only [List.map_toArray, List.map_cons, List.map_nil]); first | done | rfl | (simp only [List.length_drop, List.length_take]; rfl)) ?_
     with_reducible refine (impl_RightOfReply.calls k _ _ t770 _ _ t764 t780 _ ?side1 ?side2 ?side3 ?side4 A26.out).mono ?_
     (case side1 => repeat (first | exact (Kd.R_reads' HO772.out).2.2 | (with_reducible refine Kd.C_alloc ?_ _) | (with_reducible refine Kd.C_drewN ?_ _) | (with_reducible refine Kd.C_drew ?_)))
     (case side2 => exact (Kd.R_reads' HO772.out).2.1)
     (case side3 => repeat (first | exact (Kd.R_reads' HO767.out).2.2 | (with_reducible refine Kd.C_alloc ?_ _) | (with_reducible refine Kd.C_drewN ?_ _) | (with_reducible refine Kd.C_drew ?_)))
     (case side4 => exact (Kd.R_reads' HO767.out).2.1)
     rintro e w37 ⟨v781, rfl, ho0, hb⟩
     have HS0_ := (hb.cell (World.block_lt_of_cell? _ _ (hHeld.1))).trans (hHeld.1)
     have HS1_ := (hb.cell (World.block_lt_of_cell? _ _ (hHeld.2))).trans (hHeld.2)
     refine ⟨_, rfl, ?_⟩
     have n0_ := Aside0.mk (Kd.R_elder' (by (with_reducible repeat (first | apply Kd.R_alloc | apply Kd.R_drewN | apply Kd.R_drew)); exact HO767.out) (Kd.R_base ho0) hb)
     have n1_ := Aside0.mk (Kd.R_elder' (by (with_reducible repeat (first | apply Kd.R_alloc | apply Kd.R_drewN | apply Kd.R_drew)); exact HO769.out) (Kd.R_base ho0) hb)
     have n2_ := Aside0.mk (Kd.R_elder' (by (with_reducible repeat (first | apply Kd.R_alloc | apply Kd.R_drewN | apply Kd.R_drew)); exact HO772.out) (Kd.R_base ho0) hb)
     have n3_ := Aside0.mk (Kd.R_elder' (by (with_reducible repeat (first | apply Kd.R_alloc | apply Kd.R_drewN | apply Kd.R_drew)); exact HO775.out) (Kd.R_base ho0) hb)
     have n4_ := Aside0.mk (Kd.R_elder' (by (with_reducible repeat (first | apply Kd.R_alloc | apply Kd.R_drewN | apply Kd.R_drew)); exact HO787.out) (Kd.R_base ho0) hb)
     have n5_ := Aside0.mk (Kd.R_lower (Kd.R_new' (Kd.R_new' (Kd.R_new' (Kd.R_new' (Kd.R_new' ho0 (Kd.R_lt (by (with_reducible repeat (first | apply Kd.R_alloc | apply Kd.R_drewN | apply Kd.R_drew)); exact HO767.out))) (Kd.R_lt (by (with_reducible repeat (first | apply Kd.R_alloc | apply Kd.R_drewN | apply Kd.R_drew)); exact HO769.out))) (Kd.R_lt (by (with_reducible repeat (first | apply Kd.R_alloc | apply Kd.R_drewN | apply Kd.R_drew)); exact HO772.out))) (Kd.R_lt (by (with_reducible repeat (first | apply Kd.R_alloc | apply Kd.R_drewN | apply Kd.R_drew)); exact HO775.out))) (Kd.R_lt (by (with_reducible repeat (first | apply Kd.R_alloc | apply Kd.R_drewN | apply Kd.R_drew)); exact HO787.out))) (below_size (by repeat (first | (with_reducible first | exact HB.out | apply below_alloc | apply pw_below_drewN | apply below_drew1) | exact HB.out))))
     have n6_ := Aside0.mk (below_step (by repeat (first | (with_reducible first | exact HB.out | apply below_alloc | apply pw_below_drewN | apply below_drew1) | exact HB.out)) hb)
     clear HO767
     clear HO769
     clear HO772
     clear HO775
     clear HO787
     clear HB
     have HO767 := n0_
     have HO769 := n1_
     have HO772 := n2_
     have HO775 := n3_
     have HO787 := n4_
     have HO782 := n5_
     have HB := n6_
     clear n0_ n1_ n2_ n3_ n4_ n5_ n6_
     (try clear hb)
     (try clear hb2)
     (try clear hk)
     (try clear hi)
     (try clear ho0)
     refine hK.out _ _ ⟨HS0_, HS1_⟩ (fun hHeld => ?_)
     clear hK K
     refine nm_ 69 ?_
     exact norm_ (by simp only [putAll, Act.put, Z1, Z2, Z3]) (hCont (v781, v786) _ ⟨hHeld, (by (with_reducible repeat (first | apply Kd.R_alloc | apply Kd.R_drewN | apply Kd.R_drew)); exact Kd.R_mono HO767.out (fun _ hk => ⟨hk.1.1.1.1, ⟨hk.1.1.1.2, ⟨hk.1.1.2, ⟨hk.2, hk.1.2⟩⟩⟩⟩)), (by (with_reducible repeat (first | apply Kd.R_alloc | apply Kd.R_drewN | apply Kd.R_drew)); exact Kd.R_mono HO769.out (fun _ hk => ⟨hk.1.1.1.1, ⟨hk.1.1.1.2, ⟨hk.1.1.2, ⟨hk.2, hk.1.2⟩⟩⟩⟩)), (by (with_reducible repeat (first | apply Kd.R_alloc | apply Kd.R_drewN | apply Kd.R_drew)); exact Kd.R_mono HO772.out (fun _ hk => ⟨hk.1.1.1.1.2, ⟨hk.1.1.1.2, ⟨hk.1.1.2, ⟨hk.2, hk.1.2⟩⟩⟩⟩)), (by (with_reducible repeat (first | apply Kd.R_alloc | apply Kd.R_drewN | apply Kd.R_drew)); exact Kd.R_mono HO775.out (fun _ hk => ⟨hk.1.1.1.1.2, ⟨hk.1.1.1.2, ⟨hk.1.1.2, ⟨hk.2, hk.1.2⟩⟩⟩⟩)), (by (with_reducible repeat (first | apply Kd.R_alloc | apply Kd.R_drewN | apply Kd.R_drew)); exact Kd.R_mono HO782.out (fun _ hk => ⟨hk.1.1.1.1.2, ⟨hk.1.1.1.2, ⟨hk.1.1.2, ⟨hk.1.2, hk.2⟩⟩⟩⟩)), (by (with_reducible repeat (first | apply Kd.R_alloc | apply Kd.R_drewN | apply Kd.R_drew)); exact Kd.R_mono HO787.out (fun _ hk => ⟨hk.1.1.1.1.2, ⟨hk.1.1.1.2, ⟨hk.1.1.2, ⟨hk.1.2, hk.2⟩⟩⟩⟩)), (by repeat (first | (with_reducible first | exact HB.out | apply below_alloc | apply pw_below_drewN | apply below_drew1) | exact HB.out))⟩)
   rintro ⟨v781, v786⟩ w38 ⟨hS_, h0_, h1_, h2_, h3_, h4_, h5_, h6_⟩
   have n0_ : Aside0 (Kd.R (Kd.int .i64) 3 w38 w.heap.size (fun k_ => some k_ ≠ (.slice (some ad783) t765.length co11 : Value).ownBlock ∧ some k_ ≠ (.slice Ao13 t770.length co13 : Value).ownBlock ∧ some k_ ≠ (.slice Ao15 t773.length co15 : Value).ownBlock ∧ some k_ ≠ (v781 : Value).ownBlock ∧ some k_ ≠ (v786 : Value).ownBlock) (.slice (some ad784) t764.length co10) t764) := ⟨h0_⟩
   have n1_ : Aside0 (Kd.R (Kd.int .i64) 3 w38 w.heap.size (fun k_ => some k_ ≠ (.slice (some ad784) t764.length co10 : Value).ownBlock ∧ some k_ ≠ (.slice Ao13 t770.length co13 : Value).ownBlock ∧ some k_ ≠ (.slice Ao15 t773.length co15 : Value).ownBlock ∧ some k_ ≠ (v781 : Value).ownBlock ∧ some k_ ≠ (v786 : Value).ownBlock) (.slice (some ad783) t765.length co11) t765) := ⟨h1_⟩
   have n2_ : Aside0 (Kd.R (Kd.int .i64) 3 w38 w.heap.size (fun k_ => some k_ ≠ (.slice (some ad784) t764.length co10 : Value).ownBlock ∧ some k_ ≠ (.slice (some ad783) t765.length co11 : Value).ownBlock ∧ some k_ ≠ (.slice Ao15 t773.length co15 : Value).ownBlock ∧ some k_ ≠ (v781 : Value).ownBlock ∧ some k_ ≠ (v786 : Value).ownBlock) (.slice Ao13 t770.length co13) t770) := ⟨h2_⟩
   have n3_ : Aside0 (Kd.R (Kd.int .i64) 3 w38 w.heap.size (fun k_ => some k_ ≠ (.slice (some ad784) t764.length co10 : Value).ownBlock ∧ some k_ ≠ (.slice (some ad783) t765.length co11 : Value).ownBlock ∧ some k_ ≠ (.slice Ao13 t770.length co13 : Value).ownBlock ∧ some k_ ≠ (v781 : Value).ownBlock ∧ some k_ ≠ (v786 : Value).ownBlock) (.slice Ao15 t773.length co15) t773) := ⟨h3_⟩
   have n4_ : Aside0 (Kd.R (Kd.int .i64) 3 w38 w.heap.size (fun k_ => some k_ ≠ (.slice (some ad784) t764.length co10 : Value).ownBlock ∧ some k_ ≠ (.slice (some ad783) t765.length co11 : Value).ownBlock ∧ some k_ ≠ (.slice Ao13 t770.length co13 : Value).ownBlock ∧ some k_ ≠ (.slice Ao15 t773.length co15 : Value).ownBlock ∧ some k_ ≠ (v786 : Value).ownBlock) v781 t780) := ⟨h4_⟩
   have n5_ : Aside0 (Kd.R (Kd.int .i64) 3 w38 w.heap.size (fun k_ => some k_ ≠ (.slice (some ad784) t764.length co10 : Value).ownBlock ∧ some k_ ≠ (.slice (some ad783) t765.length co11 : Value).ownBlock ∧ some k_ ≠ (.slice Ao13 t770.length co13 : Value).ownBlock ∧ some k_ ≠ (.slice Ao15 t773.length co15 : Value).ownBlock ∧ some k_ ≠ (v781 : Value).ownBlock) v786 y785) := ⟨h5_⟩
   have n6_ : Aside0 (Below w.heap.size w w38) := ⟨h6_⟩
   clear HO767
   clear HO769
   clear HO772
   clear HO775
   clear HB
   clear h0_ h1_ h2_ h3_ h4_ h5_ h6_
   have HO767 := n0_
   have HO769 := n1_
   have HO772 := n2_
   have HO775 := n3_
   have HO782 := n4_
   have HO787 := n5_
   have HB := n6_
   clear n0_ n1_ n2_ n3_ n4_ n5_ n6_
   have hHeld : w38.cell? (ad783.add ((ji27)).toNat) = some (.int .i64 (rd t765 (ji27))) ∧ w38.cell? (ad784.add ((ji30)).toNat) = some (.int .i64 (rd t764 (ji30))) := hS_
   obtain ⟨Ao39, co39, eo39⟩ := Kd.R_slice HO782.out
   (first | subst eo39 | (injection eo39 with f1_ f2_ f3_; have f4_ := f1_.symm; have f5_ := f3_.symm; clear f1_ f2_ f3_; subst f4_; subst f5_))
   obtain ⟨Ao40, co40, eo40⟩ := Kd.R_slice HO787.out
   (first | subst eo40 | (injection eo40 with f1_ f2_ f3_; have f4_ := f1_.symm; have f5_ := f3_.symm; clear f1_ f2_ f3_; subst f4_; subst f5_))
   refine norm_ (a' := ?_) ?_ ?_
   rotate_left
   ·
    simp only [putAll, Act.put, Z1, Z2, Z3]
    rfl
   refine one_ (i := 57) (N := some 83) (bv 61 288230376151711743) rfl rfl (one_of HT_.out (by kernel_rfl)) (by decide) (fun K hK => ?_)
   refine goes_ Try.func42 (by kernel_rfl) rfl #[.slice Ao39 t780.length co39, .slice Ao40 y785.length co40] (by rfl) rfl rfl (by (try simp only [List.map_toArray, List.map_cons, List.map_nil]); first | done | rfl | (simp only [List.length_drop, List.length_take]; rfl)) ?_
   with_reducible refine (laws_sameInts.calls k _ _ t780 _ _ y785 t788 _ ?side1 ?side2 ?side3 ?side4 A33.out).mono ?_
   (case side1 => repeat (first | exact (Kd.R_reads' HO782.out).2.2 | (with_reducible refine Kd.C_alloc ?_ _) | (with_reducible refine Kd.C_drewN ?_ _) | (with_reducible refine Kd.C_drew ?_)))
   (case side2 => exact (Kd.R_reads' HO782.out).2.1)
   (case side3 => repeat (first | exact (Kd.R_reads' HO787.out).2.2 | (with_reducible refine Kd.C_alloc ?_ _) | (with_reducible refine Kd.C_drewN ?_ _) | (with_reducible refine Kd.C_drew ?_)))
   (case side4 => exact (Kd.R_reads' HO787.out).2.1)
   rintro e w' ⟨rfl, ⟨nd, rfl⟩⟩
   refine ⟨_, rfl, ?_⟩
   refine hK.out _ _ ⟨hHeld.1, hHeld.2⟩ (fun hHeld => ?_)
   clear hK K
   refine nm_ 83 ?_
   refine pv_ 61 58 84 576460752303423487 rfl rfl HT_ ?_; refine pv_ 61 59 85 1152921504606846975 rfl rfl HT_ ?_; refine pv_ 61 60 86 2305843009213693951 rfl rfl HT_ ?_
   refine done_ (done_of HT_.out (by kernel_rfl)) ?_
   try go_wp2
   go_meet
   case rel => exact ⟨_, (!t788), (by first | rfl | (simp; done) | (simp [*]; done)), H', ⟨by first | omega | exact Nat.le_refl _⟩, ⟨by repeat (first | (with_reducible first | exact HB.out | apply below_alloc | apply pw_below_drewN | apply below_drew1) | exact HB.out)⟩⟩
  case rest =>
   clear HC8
   try clear c1
   try clear p2
   try clear c16
   try clear c16b0
   try clear c16b1
   obtain ⟨kq, x86_7, rfl, HA, HJ7, HB⟩ := hcut
   cases kq with
   | zero => exact absurd HA.out (by simp [laws_FnOrders.j0])
   | succ kj7 =>
    have H := HA.out
    clear HA
    simp only [laws_FnOrders.j0] at H
    by_cases c47 : x86_7 = true
    rotate_left
    ·
     replace c47 := Bool.eq_false_iff.mpr c47
     subst c47
     have H1 : ((spec_DrawNextAfter.f kj7 l0).bind fun bt789 => ((impl_NextAfter.f kj7 bt789.1 bt789.2).bind fun t793 => (if t793 = 0 then (some true) else ((laws_contains.f kj7 bt789.1 t793).bind fun t794 => (if t794 = true then ((laws_contains.f kj7 bt789.1 bt789.2).bind fun t795 => (some t795)) else (some false)))))) = some r := by rw [if_neg (show ¬ (false = true) by decide)] at H; exact H
     clear H
     have H := H1
     clear H1
     replace H := Option.bind_eq_some_iff.mp H
     obtain ⟨⟨t789, t790⟩, A480, H⟩ := H
     replace H : ((impl_NextAfter.f kj7 t789 t790).bind fun t793 => (if t793 = 0 then (some true) else ((laws_contains.f kj7 t789 t793).bind fun t794 => (if t794 = true then ((laws_contains.f kj7 t789 t790).bind fun t795 => (some t795)) else (some false))))) = some r := H
     have A48 := Aside0.mk A480
     clear A480
     replace H := Option.bind_eq_some_iff.mp H
     obtain ⟨t793, A490, H⟩ := H
     replace H : (if t793 = 0 then (some true) else ((laws_contains.f kj7 t789 t793).bind fun t794 => (if t794 = true then ((laws_contains.f kj7 t789 t790).bind fun t795 => (some t795)) else (some false)))) = some r := H
     have A49 := Aside0.mk A490
     clear A490
     by_cases c50 : t793 = 0
     rotate_left
     ·
      rw [if_neg c50] at H
      have c50b0 : (t793 == 0) = false := beq_eq_false_iff_ne.mpr c50
      have c50b1 : (t793 != 0) = true := bne_iff_ne.mpr c50
      replace H := Option.bind_eq_some_iff.mp H
      obtain ⟨t794, A530, H⟩ := H
      replace H : (if t794 = true then ((laws_contains.f kj7 t789 t790).bind fun t795 => (some t795)) else (some false)) = some r := H
      have A53 := Aside0.mk A530
      clear A530
      by_cases c54 : t794 = true
      rotate_left
      ·
       replace c54 := Bool.eq_false_iff.mpr c54
       subst c54
       have H1 : (some false) = some r := by rw [if_neg (show ¬ (false = true) by decide)] at H; exact H
       clear H
       have H := H1
       clear H1
       obtain rfl := Option.some.inj H
       go_wp2_with (first | ((with_reducible refine gate_callee (f := 44) rfl ?_); refine goesL_ (some 89) rfl rfl Try.func44 (by kernel_rfl) rfl #[.slice A0 l0.length c0] rfl (by (try simp only [List.map_toArray, List.map_cons, List.map_nil]); first | done | rfl | (simp only [List.length_drop, List.length_take]; rfl)) ?_; (with_reducible refine (spec_DrawNextAfter.calls kj7 _ _ l0 t789 t790 _ ?side1 ?side2 A48.out).mono ?_); (case side1 => repeat (first | exact (Kd.C_below HR0.out HB.out) | (with_reducible refine Kd.C_alloc ?_ _) | (with_reducible refine Kd.C_drewN ?_ _) | (with_reducible refine Kd.C_drew ?_))); (case side2 => exact HC0.out); rintro e w58 ⟨v791, rfl, ho0, hb⟩; refine ⟨_, rfl, ?_⟩; have n0_ := Aside0.mk (Kd.R_lower ho0 (below_size (by repeat (first | (with_reducible first | exact HB.out | apply below_alloc | apply pw_below_drewN | apply below_drew1) | exact HB.out)))); have n1_ := Aside0.mk (below_step (by repeat (first | (with_reducible first | exact HB.out | apply below_alloc | apply pw_below_drewN | apply below_drew1) | exact HB.out)) hb); clear HB; have HO792 := n0_; have HB := n1_; clear n0_ n1_; (try clear hb); (try clear hb2); (try clear hk); (try clear hi); (try clear ho0); obtain ⟨Ao59, co59, eo59⟩ := Kd.R_slice HO792.out; subst eo59) | ((with_reducible refine gate_callee (f := 45) rfl ?_); refine goesL_ (some 94) rfl rfl Try.func45 (by kernel_rfl) rfl #[.slice Ao59 t789.length co59, .int .i64 t790] rfl (by (try simp only [List.map_toArray, List.map_cons, List.map_nil]); first | done | rfl | (simp only [List.length_drop, List.length_take]; rfl)) ?_; (with_reducible refine (impl_NextAfter.calls kj7 _ _ t789 t790 t793 _ ?side1 ?side2 A49.out).mono ?_); (case side1 => repeat (first | exact (Kd.R_reads' HO792.out).2.2 | (with_reducible refine Kd.C_alloc ?_ _) | (with_reducible refine Kd.C_drewN ?_ _) | (with_reducible refine Kd.C_drew ?_))); (case side2 => exact (Kd.R_reads' HO792.out).2.1); rintro e w' ⟨rfl, ⟨nd, rfl⟩⟩; refine ⟨_, rfl, ?_⟩) | (go_at_call 28; (with_reducible refine (laws_contains.calls kj7 _ _ t789 t793 false _ ?side1 ?side2 A53.out).mono ?_); (case side1 => repeat (first | exact (Kd.R_reads' HO792.out).2.2 | (with_reducible refine Kd.C_alloc ?_ _) | (with_reducible refine Kd.C_drewN ?_ _) | (with_reducible refine Kd.C_drew ?_))); (case side2 => exact (Kd.R_reads' HO792.out).2.1); rintro e w' ⟨rfl, ⟨nd, rfl⟩⟩))
       all_goals (go_ret; exact ⟨by first | rfl | (simp [errW_none, errW_some] <;> rfl) | (simp [*, errW_none, errW_some] <;> rfl), by repeat (first | (with_reducible first | exact HB.out | apply below_alloc | apply pw_below_drewN | apply below_drew1) | exact HB.out)⟩)
      subst c54
      have H1 : ((laws_contains.f kj7 t789 t790).bind fun t795 => (some t795)) = some r := by rw [if_pos rfl] at H; exact H
      clear H
      have H := H1
      clear H1
      replace H := Option.bind_eq_some_iff.mp H
      obtain ⟨t795, A550, H⟩ := H
      replace H : (some t795) = some r := H
      have A55 := Aside0.mk A550
      clear A550
      obtain rfl := Option.some.inj H
      go_wp2_with (first | ((with_reducible refine gate_callee (f := 44) rfl ?_); refine goesL_ (some 89) rfl rfl Try.func44 (by kernel_rfl) rfl #[.slice A0 l0.length c0] rfl (by (try simp only [List.map_toArray, List.map_cons, List.map_nil]); first | done | rfl | (simp only [List.length_drop, List.length_take]; rfl)) ?_; (with_reducible refine (spec_DrawNextAfter.calls kj7 _ _ l0 t789 t790 _ ?side1 ?side2 A48.out).mono ?_); (case side1 => repeat (first | exact (Kd.C_below HR0.out HB.out) | (with_reducible refine Kd.C_alloc ?_ _) | (with_reducible refine Kd.C_drewN ?_ _) | (with_reducible refine Kd.C_drew ?_))); (case side2 => exact HC0.out); rintro e w56 ⟨v791, rfl, ho0, hb⟩; refine ⟨_, rfl, ?_⟩; have n0_ := Aside0.mk (Kd.R_lower ho0 (below_size (by repeat (first | (with_reducible first | exact HB.out | apply below_alloc | apply pw_below_drewN | apply below_drew1) | exact HB.out)))); have n1_ := Aside0.mk (below_step (by repeat (first | (with_reducible first | exact HB.out | apply below_alloc | apply pw_below_drewN | apply below_drew1) | exact HB.out)) hb); clear HB; have HO792 := n0_; have HB := n1_; clear n0_ n1_; (try clear hb); (try clear hb2); (try clear hk); (try clear hi); (try clear ho0); obtain ⟨Ao57, co57, eo57⟩ := Kd.R_slice HO792.out; subst eo57) | ((with_reducible refine gate_callee (f := 45) rfl ?_); refine goesL_ (some 94) rfl rfl Try.func45 (by kernel_rfl) rfl #[.slice Ao57 t789.length co57, .int .i64 t790] rfl (by (try simp only [List.map_toArray, List.map_cons, List.map_nil]); first | done | rfl | (simp only [List.length_drop, List.length_take]; rfl)) ?_; (with_reducible refine (impl_NextAfter.calls kj7 _ _ t789 t790 t793 _ ?side1 ?side2 A49.out).mono ?_); (case side1 => repeat (first | exact (Kd.R_reads' HO792.out).2.2 | (with_reducible refine Kd.C_alloc ?_ _) | (with_reducible refine Kd.C_drewN ?_ _) | (with_reducible refine Kd.C_drew ?_))); (case side2 => exact (Kd.R_reads' HO792.out).2.1); rintro e w' ⟨rfl, ⟨nd, rfl⟩⟩; refine ⟨_, rfl, ?_⟩) | (go_at_call 28; (with_reducible refine (laws_contains.calls kj7 _ _ t789 t793 true _ ?side1 ?side2 A53.out).mono ?_); (case side1 => repeat (first | exact (Kd.R_reads' HO792.out).2.2 | (with_reducible refine Kd.C_alloc ?_ _) | (with_reducible refine Kd.C_drewN ?_ _) | (with_reducible refine Kd.C_drew ?_))); (case side2 => exact (Kd.R_reads' HO792.out).2.1); rintro e w' ⟨rfl, ⟨nd, rfl⟩⟩) | (go_at_call 28; (with_reducible refine (laws_contains.calls kj7 _ _ t789 t790 t795 _ ?side1 ?side2 A55.out).mono ?_); (case side1 => repeat (first | exact (Kd.R_reads' HO792.out).2.2 | (with_reducible refine Kd.C_alloc ?_ _) | (with_reducible refine Kd.C_drewN ?_ _) | (with_reducible refine Kd.C_drew ?_))); (case side2 => exact (Kd.R_reads' HO792.out).2.1); rintro e w' ⟨rfl, ⟨nd, rfl⟩⟩))
      all_goals (go_ret; exact ⟨by first | rfl | (simp [errW_none, errW_some] <;> rfl) | (simp [*, errW_none, errW_some] <;> rfl), by repeat (first | (with_reducible first | exact HB.out | apply below_alloc | apply pw_below_drewN | apply below_drew1) | exact HB.out)⟩)
     rw [if_pos c50] at H
     have c50b0 : (t793 == 0) = true := beq_iff_eq.mpr c50
     have c50b1 : (t793 != 0) = false := bne_eq_false_iff_eq.mpr c50
     clear c50
     obtain rfl := Option.some.inj H
     go_wp2_with (first | ((with_reducible refine gate_callee (f := 44) rfl ?_); refine goesL_ (some 89) rfl rfl Try.func44 (by kernel_rfl) rfl #[.slice A0 l0.length c0] rfl (by (try simp only [List.map_toArray, List.map_cons, List.map_nil]); first | done | rfl | (simp only [List.length_drop, List.length_take]; rfl)) ?_; (with_reducible refine (spec_DrawNextAfter.calls kj7 _ _ l0 t789 t790 _ ?side1 ?side2 A48.out).mono ?_); (case side1 => repeat (first | exact (Kd.C_below HR0.out HB.out) | (with_reducible refine Kd.C_alloc ?_ _) | (with_reducible refine Kd.C_drewN ?_ _) | (with_reducible refine Kd.C_drew ?_))); (case side2 => exact HC0.out); rintro e w51 ⟨v791, rfl, ho0, hb⟩; refine ⟨_, rfl, ?_⟩; have n0_ := Aside0.mk (Kd.R_lower ho0 (below_size (by repeat (first | (with_reducible first | exact HB.out | apply below_alloc | apply pw_below_drewN | apply below_drew1) | exact HB.out)))); have n1_ := Aside0.mk (below_step (by repeat (first | (with_reducible first | exact HB.out | apply below_alloc | apply pw_below_drewN | apply below_drew1) | exact HB.out)) hb); clear HB; have HO792 := n0_; have HB := n1_; clear n0_ n1_; (try clear hb); (try clear hb2); (try clear hk); (try clear hi); (try clear ho0); obtain ⟨Ao52, co52, eo52⟩ := Kd.R_slice HO792.out; subst eo52) | ((with_reducible refine gate_callee (f := 45) rfl ?_); refine goesL_ (some 94) rfl rfl Try.func45 (by kernel_rfl) rfl #[.slice Ao52 t789.length co52, .int .i64 t790] rfl (by (try simp only [List.map_toArray, List.map_cons, List.map_nil]); first | done | rfl | (simp only [List.length_drop, List.length_take]; rfl)) ?_; (with_reducible refine (impl_NextAfter.calls kj7 _ _ t789 t790 t793 _ ?side1 ?side2 A49.out).mono ?_); (case side1 => repeat (first | exact (Kd.R_reads' HO792.out).2.2 | (with_reducible refine Kd.C_alloc ?_ _) | (with_reducible refine Kd.C_drewN ?_ _) | (with_reducible refine Kd.C_drew ?_))); (case side2 => exact (Kd.R_reads' HO792.out).2.1); rintro e w' ⟨rfl, ⟨nd, rfl⟩⟩; refine ⟨_, rfl, ?_⟩))
     all_goals (go_ret; exact ⟨by first | rfl | (simp [errW_none, errW_some] <;> rfl) | (simp [*, errW_none, errW_some] <;> rfl), by repeat (first | (with_reducible first | exact HB.out | apply below_alloc | apply pw_below_drewN | apply below_drew1) | exact HB.out)⟩)
    subst c47
    have H1 : (some false) = some r := by rw [if_pos rfl] at H; exact H
    clear H
    have H := H1
    clear H1
    obtain rfl := Option.some.inj H
    go_wp2
    all_goals (go_ret; exact ⟨by first | rfl | (simp [errW_none, errW_some] <;> rfl) | (simp [*, errW_none, errW_some] <;> rfl), by repeat (first | (with_reducible first | exact HB.out | apply below_alloc | apply pw_below_drewN | apply below_drew1) | exact HB.out)⟩)
 subst c3
 have H1 : (some true) = some r := by rw [if_pos rfl] at H; exact H
 clear H
 have H := H1
 clear H1
 obtain rfl := Option.some.inj H
 go_enter Try.func9, Try.ntmps9
 go_wp2_with (first | ((with_reducible refine gate_callee (f := 26) rfl ?_); refine goesL_ (some 10) rfl rfl Try.func26 (by kernel_rfl) rfl #[.slice A0 l0.length c0] rfl (by (try simp only [List.map_toArray, List.map_cons, List.map_nil]); first | done | rfl | (simp only [List.length_drop, List.length_take]; rfl)) ?_; (with_reducible refine (laws_big.calls _ _ l0 true _ ?side1 ?side2 A2.out).mono ?_); (case side1 => repeat (first | exact HR0.out | (with_reducible refine Kd.C_alloc ?_ _) | (with_reducible refine Kd.C_drewN ?_ _) | (with_reducible refine Kd.C_drew ?_))); (case side2 => exact HC0.out); rintro e w' ⟨rfl, ⟨nd, rfl⟩⟩; refine ⟨_, rfl, ?_⟩))
 all_goals (go_ret; exact ⟨by first | rfl | (simp [errW_none, errW_some] <;> rfl) | (simp [*, errW_none, errW_some] <;> rfl), by repeat (first | (with_reducible first | exact HB.out | apply below_alloc | apply pw_below_drewN | apply below_drew1) | exact HB.out)⟩)
def laws_FnOrders.Pure : Prop := ∀ (l0 : List Int), l0.length ≤ maxLen → l0.length * 1 ≤ 140737488351232 → (∀ x ∈ l0, (Lit.int .u8 x).wf = true) → ∃ k, laws_FnOrders.f k l0 = some true
end Go.Proofs.Ytadcndmhdbhfkaa.A
end

section
set_option linter.unusedVariables false
namespace Go.Proofs.Ytadcndmhdbhfkaa.Open
open Go.ChangeShapes Go.WideShapes Go.Deep Go.RowKit Go.Proofs.YtadcndmhdbhfkaaW.PrintWords
def Opn (P : Program) (t : TypeId) {α : Type} (d : Kd α) : Prop :=
  ∀ (H : Type) (enc : TypeId × Value → H) (w : World) (base : Nat) (spare : Nat → Bool) (held : Bool) (fuel : Nat) (cs : List Value) (y : DataW H × List MemPlace),
    DataW.trod enc P w base spare held fuel t cs = some y → ∃ x : α, d.K w x cs
def OpnL (P : Program) (fs : List Field) {α : Type} (d : Kd α) : Prop :=
  ∀ (H : Type) (enc : TypeId × Value → H) (w : World) (base : Nat) (spare : Nat → Bool) (held : Bool) (cs : List Value), cs.length = fs.length →
    (∀ (j : Nat) (f : Field) (c : Value), fs[j]? = some f → cs[j]? = some c → ∃ (n : Nat) (y : DataW H × List MemPlace), DataW.trod enc P w base spare held n f.type [c] = some y) → ∃ x : α, d.K w x cs
theorem opn_int {P : Program} {t : TypeId} {k : IntKind} (ht : P.underlying t = some (.int k)) : Opn P t (Kd.int k) := by
  intro H enc w base spare held fuel cs y h
  obtain ⟨n, rfl, _⟩ := DataW.trod_int ht h
  exact ⟨n, rfl⟩
theorem list_of {α : Type} {p : Nat → α → Prop} : ∀ n, (∀ i, i < n → ∃ x, p i x) → ∃ l : List α, l.length = n ∧ ∀ i x, l[i]? = some x → p i x
  | 0, _ => ⟨[], rfl, fun i x h => by simp at h⟩
  | n + 1, h => by
    obtain ⟨l, hl, hp⟩ := list_of n (fun i hi => h i (by omega))
    obtain ⟨x, hx⟩ := h n (by omega)
    refine ⟨l ++ [x], by simp [hl], fun i y hy => ?_⟩
    rcases Nat.lt_or_ge i l.length with hi | hi
    · rw [List.getElem?_append_left hi] at hy
      exact hp i y hy
    · have hi' : i = l.length := by
        have := (List.getElem?_eq_some_iff.1 hy).1
        rw [List.length_append, List.length_singleton] at this
        omega
      subst hi'
      have : x = y := by simpa using hy
      subst this
      rw [hl]
      exact hx
theorem opn_slice {P : Program} {t e : TypeId} {α : Type} {d : Kd α} (ht : P.underlying t = some (.slice e)) (hC : P.cellsOf e = d.sz) (he : Opn P e d) : Opn P t (Kd.slice e d) := by
  intro H enc w base spare held fuel cs y h
  rcases open_slice ht h with ⟨rfl, _⟩ | ⟨a, len, cap, m, n, D, Pl, rfl, hb, hl, hm, hmm, hx, hi⟩
  · exact ⟨[], none, 0, rfl, Nat.le_refl _, rfl, by simp, fun h => absurd h (by simp)⟩
  · have hlm : len ≤ m := by rw [hmm]; split <;> omega
    obtain ⟨xs, hxl, hp⟩ := list_of (p := fun i x => ∃ cs', w.cells? base (a.add (i * P.cellsOf e)) (P.cellsOf e) = some cs' ∧ d.K w x cs') len (fun i hil => by
      obtain ⟨cs', h1, h2⟩ := hi i (by omega)
      obtain ⟨x, hx⟩ := he H enc w base spare held n cs' _ h2
      exact ⟨x, cs', h1, hx⟩)
    refine ⟨xs, some a, cap, by rw [hxl], by omega, rfl, by unfold maxLen at hm; omega, fun _ => ⟨a, rfl, fun j p hj => ?_⟩⟩
    obtain ⟨cs', hc, hk⟩ := hp j p hj
    obtain ⟨_, hcl, hat⟩ := World.cells?_some hc
    refine ⟨cs', d.K_len hk, hk, fun i u hu => ?_⟩
    have hil : i < cs'.length := (List.getElem?_eq_some_iff.1 hu).1
    have := hat i (by omega)
    rw [Go.Deep.add_add, hC] at this
    rw [this]
    exact hu
theorem opened {H : Type} {enc : TypeId × Value → H} {P : Program} {W : World} {base : Nat} {spare : Nat → Bool} {held : Bool} {t e : TypeId} {α : Type} {d : Kd α} (h : Opn P t (Kd.slice e d)) {a : Option Addr} {len cap : Nat} {dd : DataW H} {ps : List MemPlace}
    (ht : DataW.Trod enc P W base spare held t (.slice a len cap) dd ps) : ∃ l : List α, l.length = len ∧ l.length ≤ cap ∧ d.C W a l.length l := by
  obtain ⟨fuel, hf⟩ := ht
  obtain ⟨l, A, c, he, hl, hc⟩ := h H enc W base spare held fuel _ _ hf
  simp [Value.cells] at he
  obtain ⟨rfl, rfl, rfl⟩ := he
  exact ⟨l, rfl, hl, hc⟩
end Go.Proofs.Ytadcndmhdbhfkaa.Open
end

section
set_option linter.unusedVariables false
set_option linter.unusedSimpArgs false
namespace Go.Proofs.Ytadcndmhdbhfkaa.L
open Go Go.RowKit Go.Proofs.YtadcndmhdbhfkaaW.PrintWords
theorem Ev.pos {α : Type} {c : Prop} [Decidable c] {A B : Nat → Option α} {r : α} (h : c) (k : Ev A r) : Ev (fun k => if c then A k else B k) r := by
  obtain ⟨K, k⟩ := k
  exact ⟨K, fun n hn => by show (if c then A n else B n) = some r; rw [if_pos h]; exact k n hn⟩
theorem Ev.neg {α : Type} {c : Prop} [Decidable c] {A B : Nat → Option α} {r : α} (h : ¬ c) (k : Ev B r) : Ev (fun k => if c then A k else B k) r := by
  obtain ⟨K, k⟩ := k
  exact ⟨K, fun n hn => by show (if c then A n else B n) = some r; rw [if_neg h]; exact k n hn⟩
theorem Ev.ite {α : Type} {c : Prop} [Decidable c] {A B : Nat → Option α} {r : α} (h : c → Ev A r) (k : ¬ c → Ev B r) : Ev (fun k => if c then A k else B k) r := by
  by_cases e : c
  · exact Ev.pos e (h e)
  · exact Ev.neg e (k e)
theorem Ev.cast {α : Type} {g : Nat → Option α} {r r' : α} (h : Ev g r) (e : r = r') : Ev g r' := e ▸ h
theorem Ev.bnd {α β : Type} {o : Option α} {a : α} {f : Nat → α → Option β} {r : β} (h : o = some a) (k : Ev (fun n => f n a) r) : Ev (fun n => o.bind (f n)) r := by
  obtain ⟨K, k⟩ := k
  exact ⟨K, fun n hn => by show o.bind (f n) = some r; rw [h]; exact k n hn⟩
theorem Ev.some_ {α : Type} {r r' : α} (h : r = r') : Ev (fun _ => some r) r' := h ▸ Ev.now r
theorem w64 {x : Int} (h0 : -9223372036854775808 ≤ x) (h1 : x ≤ 9223372036854775807) : wrap64 x = x := by
  unfold wrap64
  omega
theorem w64s {n : Nat} (h : n < 4611686018427387904) : wrap64 ((n : Int) + 1) = ((n + 1 : Nat) : Int) := by
  unfold wrap64
  omega
theorem rd_at {l : List Int} {n : Nat} (h : n < l.length) : rd l (n : Int) = l[n] := by
  simp [rd, h]
def inR (a b c : Int) : Bool := decide (b ≤ a ∧ a ≤ c)
theorem inR_iff {a b c : Int} : inR a b c = true ↔ b ≤ a ∧ a ≤ c := by simp [inR]
end Go.Proofs.Ytadcndmhdbhfkaa.L
end

section
set_option linter.unusedVariables false
set_option linter.unusedSimpArgs false
namespace Go.Proofs.Ytadcndmhdbhfkaa.L
open Go Go.RowKit Go.Proofs.Ytadcndmhdbhfkaa.A Go.Proofs.YtadcndmhdbhfkaaW.PrintWords
theorem l4Has_l0 (l : List Int) (x : Int) (hl : l.length ≤ 1099511627776) : ∀ (d n : Nat), n + d = l.length → Ev (fun k => spec_l4Has.l0 k l x (n : Int)) (decide (x ∈ l.drop n)) := by
  intro d
  induction d with
  | zero =>
    intro n hd
    refine Ev.step (fun k => spec_l4Has.l0.eq_2 ..) ?_
    refine Ev.neg (by omega) (Ev.some_ ?_)
    rw [List.drop_eq_nil_of_le (by omega)]
    simp
  | succ d ih =>
    intro n hd
    refine Ev.step (fun k => spec_l4Has.l0.eq_2 ..) ?_
    refine Ev.pos (by omega) (Ev.pos (by omega) ?_)
    simp only [w64s (show n < 4611686018427387904 by omega), rd_at (show n < l.length by omega)]
    have h1 := ih (n + 1) (by omega)
    rw [List.drop_eq_getElem_cons (show n < l.length by omega)]
    generalize l.drop (n + 1) = u at h1 ⊢
    refine Ev.ite (fun h => Ev.some_ ?_) (fun h => Ev.cast h1 ?_)
    · simp [h]
    · have h' : ¬ x = l[n] := fun e => h e.symm
      simp [h']
theorem l4Has_ev (l : List Int) (x : Int) (hl : l.length ≤ 1099511627776) : Ev (fun k => spec_l4Has.f k l x) (decide (x ∈ l)) := by
  unfold spec_l4Has.f
  exact Ev.cast (l4Has_l0 l x hl l.length 0 (by omega)) (by simp)
end Go.Proofs.Ytadcndmhdbhfkaa.L
end

section
set_option linter.unusedVariables false
set_option linter.unusedSimpArgs false
namespace Go.Proofs.Ytadcndmhdbhfkaa.L
open Go Go.RowKit Go.Proofs.Ytadcndmhdbhfkaa.A Go.Proofs.YtadcndmhdbhfkaaW.PrintWords
theorem conc2 (x y : List Int) (hx : x.length ≤ 1099511627776) (hy : y.length ≤ 1099511627776) : Ev (fun k => slices_Concat_int_int.f k [x, y]) (x ++ y) := by
  unfold slices_Concat_int_int.f
  have e0 : rd_L4 [x, y] 0 = x := rfl
  have e1 : rd_L4 [x, y] 1 = y := rfl
  have w1 : wrap64 (0 + 1) = 1 := by unfold wrap64; omega
  have w2 : wrap64 (1 + 1) = 2 := by unfold wrap64; omega
  have wx : wrap64 (0 + (x.length : Int)) = (x.length : Int) := by unfold wrap64; omega
  have wy : wrap64 ((x.length : Int) + (y.length : Int)) = (x.length : Int) + (y.length : Int) := by unfold wrap64; omega
  refine Ev.step (fun k => slices_Concat_int_int.l0.eq_2 ..) (Ev.pos (by simp) (Ev.pos (by omega) (Ev.pos (by simp) ?_)))
  rw [e0, w1, wx]
  refine Ev.neg (by omega) (Ev.step (fun k => slices_Concat_int_int.l0.eq_2 ..) (Ev.pos (by simp) (Ev.pos (by omega) (Ev.pos (by simp) ?_))))
  rw [e1, w2, wy]
  refine Ev.neg (by omega) (Ev.step (fun k => slices_Concat_int_int.l0.eq_2 ..) (Ev.neg (by simp) ?_))
  refine Ev.bnd (a := []) (by unfold slices_Grow_int_int.f; exact if_pos ⟨rfl, by omega, by omega⟩) ?_
  refine Ev.step (fun k => slices_Concat_int_int.l1.eq_2 ..) (Ev.pos (by simp) (Ev.pos (by omega) (Ev.pos (by simp) ?_)))
  rw [e0, w1]
  refine Ev.pos (by simp; omega) (Ev.step (fun k => slices_Concat_int_int.l1.eq_2 ..) (Ev.pos (by simp) (Ev.pos (by omega) (Ev.pos (by simp) ?_))))
  rw [e1, w2]
  refine Ev.pos (by simp; omega) (Ev.step (fun k => slices_Concat_int_int.l1.eq_2 ..) (Ev.neg (by simp) (Ev.some_ ?_)))
  simp
def flat2 : List (Int × Int) → List Int
  | [] => []
  | p :: ps => p.1 :: p.2 :: flat2 ps
def prs (a b : List Int) (n : Nat) : Nat → Nat → List (Int × Int)
  | 0, _ => []
  | d + 1, i => (if i + 1 = n then (rd b (i : Int), rd a (i : Int)) else (rd a (i : Int), rd b (i : Int))) :: prs a b n d (i + 1)
theorem flat_prs (a b : List Int) (n : Nat) : ∀ (d i : Nat), i + d = n → 0 < d → turnUp a b i ++ flat2 (prs a b n d i) = turnUp a b (n - 1) ++ [rd b ((n - 1 : Nat) : Int), rd a ((n - 1 : Nat) : Int)]
  | 0, _, _, h => absurd h (by omega)
  | 1, i, h, _ => by
    have e : n - 1 = i := by omega
    rw [e]
    simp only [prs]
    rw [if_pos (by omega)]
    rfl
  | d + 2, i, h, _ => by
    rw [← flat_prs a b n (d + 1) (i + 1) (by omega) (by omega)]
    rw [prs, if_neg (by omega)]
    simp [flat2, turnUp]
theorem prs_perm (a b : List Int) (n : Nat) (ha : a.length = n) (hb : b.length = n) : ∀ (d i : Nat), i + d = n → (flat2 (prs a b n d i)).Perm (a.drop i ++ b.drop i)
  | 0, i, h => by rw [List.drop_eq_nil_of_le (by omega), List.drop_eq_nil_of_le (by omega)]; exact List.Perm.refl _
  | d + 1, i, h => by
    have ih := prs_perm a b n ha hb d (i + 1) (by omega)
    have h1 : i < a.length := by omega
    have h2 : i < b.length := by omega
    rw [List.drop_eq_getElem_cons h1, List.drop_eq_getElem_cons h2, prs, ← rd_get h1, ← rd_get h2]
    have e : (rd a (i : Int) :: rd b (i : Int) :: flat2 (prs a b n d (i + 1))).Perm (rd a (i : Int) :: a.drop (i + 1) ++ rd b (i : Int) :: b.drop (i + 1)) :=
      List.Perm.cons _ ((List.Perm.cons _ ih).trans List.perm_middle.symm)
    split
    · exact (List.Perm.swap _ _ _).trans e
    · exact e
def goL (out : List Int) : List (Int × Int) → List Int
  | [] => out
  | p :: ps => if p.1 ∈ out then [] else if p.2 ∈ out then [] else if p.1 = p.2 then [] else goL (out ++ [p.1, p.2]) ps
theorem goL_eq : ∀ (ps : List (Int × Int)) (out : List Int), out.Nodup → goL out ps = if (out ++ flat2 ps).Nodup then out ++ flat2 ps else []
  | [], out, h => by simp [goL, flat2, h]
  | p :: ps, out, h => by
    have e : out ++ flat2 (p :: ps) = (out ++ [p.1, p.2]) ++ flat2 ps := by simp [flat2]
    rw [e, goL]
    by_cases h1 : p.1 ∈ out
    · rw [if_pos h1, if_neg]
      intro hn
      have := (List.nodup_append.1 (List.nodup_append.1 hn).1).2.2 _ h1 p.1 (by simp)
      exact this rfl
    · rw [if_neg h1]
      by_cases h2 : p.2 ∈ out
      · rw [if_pos h2, if_neg]
        intro hn
        have := (List.nodup_append.1 (List.nodup_append.1 hn).1).2.2 _ h2 p.2 (by simp)
        exact this rfl
      · rw [if_neg h2]
        by_cases h3 : p.1 = p.2
        · rw [if_pos h3, if_neg]
          intro hn
          have := (List.nodup_append.1 (List.nodup_append.1 hn).1).2.1
          simp [h3] at this
        · rw [if_neg h3]
          refine goL_eq ps _ ?_
          rw [List.nodup_append]
          refine ⟨h, by simp [h3], fun x hx y hy e => ?_⟩
          subst e
          simp only [List.mem_cons, List.not_mem_nil, or_false] at hy
          rcases hy with rfl | rfl
          · exact h1 hx
          · exact h2 hx
theorem sTurn_l0 (a b : List Int) (n : Nat) (ha : a.length = n) (hb : b.length = n) (hn : n ≤ 6) : ∀ (d i : Nat) (out : List Int), i + d = n → out.length = 2 * i → Ev (fun k => spec_TurnOrder.l0 k a b out (i : Int)) (goL out (prs a b n d i)) := by
  intro d
  induction d with
  | zero =>
    intro i out h ho
    exact Ev.step (fun k => spec_TurnOrder.l0.eq_2 ..) (Ev.neg (by omega) (Ev.now _))
  | succ d ih =>
    intro i out h ho
    have hj : ∀ x y : Int, Ev (fun k => spec_TurnOrder.j2 k a b out (i : Int) x y) (if x ∈ out then [] else if y ∈ out then [] else if x = y then [] else goL (out ++ [x, y]) (prs a b n d (i + 1))) := by
      intro x y
      refine Ev.step (fun k => spec_TurnOrder.j2.eq_2 ..) (Ev.bind (l4Has_ev _ _ (by omega)) ?_)
      refine Ev.ite (fun h => Ev.some_ (if_pos (of_decide_eq_true h)).symm) (fun h => ?_)
      rw [if_neg (by simpa using h)]
      refine Ev.bind (l4Has_ev _ _ (by omega)) (Ev.ite (fun h => Ev.some_ (if_pos (of_decide_eq_true h)).symm) (fun h => ?_))
      rw [if_neg (by simpa using h)]
      refine Ev.ite (fun h => Ev.some_ (if_pos h).symm) (fun h => ?_)
      rw [if_neg h]
      refine Ev.bnd rfl (Ev.pos (by simp; omega) ?_)
      rw [w64s (show i < 4611686018427387904 by omega)]
      exact ih (i + 1) (out ++ [x, y]) (by omega) (by simp; omega)
    refine Ev.step (fun k => spec_TurnOrder.l0.eq_2 ..) (Ev.pos (by omega) (Ev.pos (by omega) (Ev.pos (by omega) ?_)))
    rw [prs, goL, w64s (show i < 4611686018427387904 by omega)]
    refine Ev.ite (fun h => ?_) (fun h => ?_)
    · have e : (if i + 1 = n then (rd b (i : Int), rd a (i : Int)) else (rd a (i : Int), rd b (i : Int))) = (rd b (i : Int), rd a (i : Int)) := if_pos (by omega)
      rw [e]
      exact hj _ _
    · have e : (if i + 1 = n then (rd b (i : Int), rd a (i : Int)) else (rd a (i : Int), rd b (i : Int))) = (rd a (i : Int), rd b (i : Int)) := if_neg (by omega)
      rw [e]
      exact hj _ _
def turnT (a b : List Int) : List Int := if a.length = b.length ∧ (1 ≤ a.length ∧ a.length ≤ 6) ∧ (a ++ b).Nodup then turnUp a b (a.length - 1) ++ [rd b ((a.length - 1 : Nat) : Int), rd a ((a.length - 1 : Nat) : Int)] else []
theorem turnT_len (a b : List Int) : (turnT a b).length ≤ 12 := by
  unfold turnT
  split
  · rename_i h
    rw [List.length_append, turnUp_length]
    simp
    omega
  · simp
theorem sTurn_ev (a b : List Int) : Ev (fun k => spec_TurnOrder.f k a b) (turnT a b) := by
  unfold spec_TurnOrder.f
  refine Ev.bnd rfl (Ev.ite (fun h => ?_) (fun h => ?_))
  · have hb : a.length = b.length := by omega
    refine Ev.bnd (a := decide (1 ≤ a.length ∧ a.length ≤ 6)) ?_ ?_
    · unfold spec_l1In.f
      by_cases h1 : (1 : Int) ≤ (a.length : Int)
      · rw [if_pos h1]
        congr 1
        exact decide_eq_decide.2 ⟨fun h => by omega, fun h => by omega⟩
      · rw [if_neg h1]
        congr 1
        exact (decide_eq_false (by omega)).symm
    · refine Ev.step (fun k => spec_TurnOrder.j0.eq_2 ..) (Ev.ite (fun h2 => Ev.some_ ?_) (fun h2 => ?_))
      · unfold turnT
        rw [if_neg]
        intro hh
        simp [hh.2.1] at h2
      · have hr : 1 ≤ a.length ∧ a.length ≤ 6 := by simp only [Bool.not_eq_true', decide_eq_false_iff_not, Decidable.not_not] at h2; exact h2
        refine Ev.cast (sTurn_l0 a b a.length rfl hb.symm hr.2 a.length 0 [] (by omega) rfl) ?_
        rw [goL_eq _ _ List.nodup_nil]
        have e := flat_prs a b a.length a.length 0 (by omega) (by omega)
        have hp := prs_perm a b a.length rfl hb.symm a.length 0 (by omega)
        simp only [turnUp, List.nil_append, List.drop_zero] at e hp
        simp only [List.nil_append]
        unfold turnT
        by_cases hn : (a ++ b).Nodup
        · rw [if_pos (hp.nodup_iff.2 hn), if_pos ⟨hb, hr, hn⟩, e]
        · rw [if_neg (fun h => hn (hp.nodup_iff.1 h)), if_neg (fun h => hn h.2.2)]
  · refine Ev.step (fun k => spec_TurnOrder.j0.eq_2 ..) (Ev.pos rfl (Ev.some_ ?_))
    unfold turnT
    rw [if_neg (fun hh => h (by omega))]
theorem compact_full (s : List Int) (hs : s.Pairwise (fun x y => x ≤ y)) : s.length ≤ (Lib.compact s).length ↔ s.Nodup := by
  have hk : s.length ≤ (Lib.compact s).length ↔ ∀ j, j < s.length → Lib.keeps s.toArray j = true := by
    have hle := Lib.compact_length_le s
    have e : (Lib.compact s).length = ((List.range s.length).filter (Lib.keeps s.toArray)).length := by simp [Lib.compact, Lib.compactUpTo]
    rw [e] at hle ⊢
    have := List.length_filter_eq_length_iff (l := List.range s.length) (p := Lib.keeps s.toArray)
    simp only [List.length_range, List.mem_range] at this
    exact ⟨fun h => this.1 (by omega), fun h => by rw [this.2 h]; exact Nat.le_refl _⟩
  rw [hk]
  constructor
  · intro h
    rw [List.nodup_iff_pairwise_ne, List.pairwise_iff_getElem]
    intro i j hi hj hij
    have h1 := h j hj
    simp only [Lib.keeps, decide_eq_true_eq] at h1
    have h2 : s[j] ≠ s[j - 1] := by
      rcases h1 with h1 | h1
      · omega
      · simpa [getElem!_pos, hj, show j - 1 < s.length by omega] using h1
    have h3 : s[j - 1] ≤ s[j] := (List.pairwise_iff_getElem.1 hs) (j - 1) j (by omega) hj (by omega)
    have h4 : s[i] ≤ s[j - 1] := by
      by_cases e : i = j - 1
      · subst e
        exact Int.le_refl _
      · exact (List.pairwise_iff_getElem.1 hs) i (j - 1) hi (by omega) (by omega)
    omega
  · intro h j hj
    simp only [Lib.keeps, decide_eq_true_eq]
    by_cases h0 : j = 0
    · exact .inl h0
    · right
      have := (List.pairwise_iff_getElem.1 (List.nodup_iff_pairwise_ne.1 h)) (j - 1) j (by omega) hj (by omega)
      simpa [getElem!_pos, hj, show j - 1 < s.length by omega] using fun e => this e.symm
theorem srtI_sorted (l : List Int) : (srtI l).Pairwise (fun x y => x ≤ y) := by
  have := List.pairwise_mergeSort (le := fun x y : Int => decide (x ≤ y)) (fun a b c h1 h2 => by simp only [decide_eq_true_eq] at *; omega) (fun a b => by simp only [Bool.or_eq_true, decide_eq_true_eq]; omega) l
  exact this.imp (fun h => by simpa using h)
theorem iTurn_ev (a b : List Int) (ha : a.length ≤ 1099511627776) (hb : b.length ≤ 1099511627776) : Ev (fun k => impl_TurnOrder.f k a b) (turnT a b) := by
  unfold impl_TurnOrder.f turnT
  have hl : (srtI (a ++ b)).length = a.length + b.length := by rw [show (srtI (a ++ b)).length = (a ++ b).length from List.length_mergeSort _, List.length_append]
  have hc := compact_full (srtI (a ++ b)) (srtI_sorted _)
  have hp : (srtI (a ++ b)).Nodup ↔ (a ++ b).Nodup := (List.mergeSort_perm (a ++ b) _).nodup_iff
  rw [hp, hl] at hc
  refine Ev.bind (conc2 a b ha hb) (Ev.pos (by rw [List.length_append]; omega) (Ev.ite (fun h => Ev.some_ (if_pos ⟨h.1, h.2.1, hc.1 (by have := h.1; have := h.2.2; omega)⟩).symm) (fun h => Ev.some_ (if_neg (fun hh => h ⟨hh.1, hh.2.1, by have := hc.2 hh.2.2; have := hh.1; omega⟩)).symm)))
end Go.Proofs.Ytadcndmhdbhfkaa.L
end

section
set_option linter.unusedVariables false
set_option linter.unusedSimpArgs false
namespace Go.Proofs.Ytadcndmhdbhfkaa.L
open Go Go.RowKit Go.Proofs.Ytadcndmhdbhfkaa.A Go.Proofs.YtadcndmhdbhfkaaW.PrintWords
end Go.Proofs.Ytadcndmhdbhfkaa.L
end

section
set_option linter.unusedVariables false
set_option linter.unusedSimpArgs false
namespace Go.Proofs.Ytadcndmhdbhfkaa.L
open Go Go.RowKit Go.Proofs.Ytadcndmhdbhfkaa.A Go.Proofs.YtadcndmhdbhfkaaW.PrintWords
theorem InRange_eq (a b c : Int) : impl_InRange.f a b c = some (inR a b c) := by
  unfold impl_InRange.f inR
  by_cases h : b ≤ a
  · rw [if_pos h]; congr 1; simp; omega
  · rw [if_neg h]; congr 1; simp; omega
end Go.Proofs.Ytadcndmhdbhfkaa.L
end

section
set_option linter.unusedVariables false
set_option linter.unusedSimpArgs false
namespace Go.Proofs.Ytadcndmhdbhfkaa.L
open Go Go.RowKit Go.Proofs.Ytadcndmhdbhfkaa.A Go.Proofs.YtadcndmhdbhfkaaW.PrintWords
theorem Index_l0 (l : List Int) (x : Int) (hl : l.length ≤ 1099511627776) : ∀ (d n : Nat), n + d = l.length → Ev (fun k => slices_Index_int_int.l0 k l x (l.length : Int) (n : Int)) (if x ∈ l.drop n then ((n + (l.drop n).idxOf x : Nat) : Int) else -1) := by
  intro d
  induction d with
  | zero =>
    intro n hd
    refine Ev.step (fun k => slices_Index_int_int.l0.eq_2 ..) ?_
    refine Ev.neg (by omega) (Ev.some_ ?_)
    rw [List.drop_eq_nil_of_le (by omega)]
    simp
  | succ d ih =>
    intro n hd
    refine Ev.step (fun k => slices_Index_int_int.l0.eq_2 ..) ?_
    refine Ev.pos (by omega) (Ev.pos (by omega) (Ev.pos (by omega) ?_))
    simp only [w64s (show n < 4611686018427387904 by omega), rd_at (show n < l.length by omega)]
    have h1 := ih (n + 1) (by omega)
    rw [List.drop_eq_getElem_cons (show n < l.length by omega)]
    generalize l.drop (n + 1) = u at h1 ⊢
    refine Ev.ite (fun h => Ev.some_ ?_) (fun h => Ev.cast h1 ?_)
    · simp [h]
    · have h' : ¬ l[n] = x := fun e => h e.symm
      simp only [List.mem_cons, h, false_or, List.idxOf_cons, beq_eq_false_iff_ne.2 h']
      split
      · simp; omega
      · rfl
def idx (l : List Int) (x : Int) : Int := if x ∈ l then (l.idxOf x : Int) else -1
theorem Index_ev (l : List Int) (x : Int) (hl : l.length ≤ 1099511627776) : Ev (fun k => slices_Index_int_int.f k l x) (idx l x) := by
  unfold slices_Index_int_int.f
  refine Ev.cast (Index_l0 l x hl l.length 0 (by omega)) ?_
  simp [idx]
theorem Contains_ev (l : List Int) (x : Int) (hl : l.length ≤ 1099511627776) : Ev (fun k => slices_Contains_int_int.f k l x) (decide (x ∈ l)) := by
  unfold slices_Contains_int_int.f
  refine Ev.bind (Index_ev l x hl) (Ev.some_ ?_)
  unfold idx
  by_cases h : x ∈ l
  · simp [h]
  · simp [h]
end Go.Proofs.Ytadcndmhdbhfkaa.L
end

section
set_option linter.unusedVariables false
set_option linter.unusedSimpArgs false
namespace Go.Proofs.Ytadcndmhdbhfkaa.L
open Go Go.RowKit Go.Proofs.Ytadcndmhdbhfkaa.A Go.Proofs.YtadcndmhdbhfkaaW.PrintWords
def fairF (a : List Int) (g : Int) : List Int → Bool
  | [] => true
  | x :: t => if x ∈ a then inR (g + 1) (-1) 1 && fairF a (g + 1) t else inR (g - 1) (-1) 1 && fairF a (g - 1) t
theorem iIsFairOrder_l0 (l a : List Int) (hl : l.length ≤ 1099511627776) (ha : a.length ≤ 1099511627776) : ∀ (d n : Nat) (g : Int), n + d = l.length → -1 ≤ g → g ≤ 1 → Ev (fun k => impl_IsFairOrder.l0 k a g l (l.length : Int) (n : Int)) (fairF a g (l.drop n)) := by
  intro d
  induction d with
  | zero =>
    intro n g hd h0 h1
    refine Ev.step (fun k => impl_IsFairOrder.l0.eq_2 ..) ?_
    refine Ev.neg (by omega) (Ev.some_ ?_)
    rw [List.drop_eq_nil_of_le (by omega)]
    rfl
  | succ d ih =>
    intro n g hd h0 h1
    refine Ev.step (fun k => impl_IsFairOrder.l0.eq_2 ..) ?_
    refine Ev.pos (by omega) (Ev.pos (by omega) (Ev.pos (by omega) ?_))
    simp only [w64s (show n < 4611686018427387904 by omega), rd_at (show n < l.length by omega), InRange_eq, Option.bind_some, w64 (show -9223372036854775808 ≤ g + 1 by omega) (show g + 1 ≤ 9223372036854775807 by omega), w64 (show -9223372036854775808 ≤ g - 1 by omega) (show g - 1 ≤ 9223372036854775807 by omega)]
    have h1 := fun g h0 h1 => ih (n + 1) g (by omega) h0 h1
    rw [List.drop_eq_getElem_cons (show n < l.length by omega)]
    generalize l.drop (n + 1) = u at h1 ⊢
    refine Ev.bind (Contains_ev a l[n] ha) (Ev.ite (fun h => ?_) (fun h => ?_))
    · have hm : l[n] ∈ a := by simpa using h
      refine Ev.ite (fun h2 => Ev.cast (h1 (g + 1) (inR_iff.1 h2).1 (inR_iff.1 h2).2) ?_) (fun h2 => Ev.some_ ?_)
      · simp [fairF, hm, h2]
      · simp [fairF, hm, h2]
    · have hm : ¬ l[n] ∈ a := by simpa using h
      refine Ev.ite (fun h2 => Ev.cast (h1 (g - 1) (inR_iff.1 h2).1 (inR_iff.1 h2).2) ?_) (fun h2 => Ev.some_ ?_)
      · simp [fairF, hm, h2]
      · simp [fairF, hm, h2]
theorem iIsFairOrder_ev (l a : List Int) (hl : l.length ≤ 1099511627776) (ha : a.length ≤ 1099511627776) : Ev (fun k => impl_IsFairOrder.f k l a) (fairF a 0 l) := by
  unfold impl_IsFairOrder.f
  exact Ev.cast (iIsFairOrder_l0 l a hl ha l.length 0 0 (by omega) (by omega) (by omega)) (by simp)
end Go.Proofs.Ytadcndmhdbhfkaa.L
end

section
set_option linter.unusedVariables false
set_option linter.unusedSimpArgs false
namespace Go.Proofs.Ytadcndmhdbhfkaa.L
open Go Go.RowKit Go.Proofs.Ytadcndmhdbhfkaa.A Go.Proofs.YtadcndmhdbhfkaaW.PrintWords
def okTurn (a b : List Int) : Prop := a.length = b.length ∧ (1 ≤ a.length ∧ a.length ≤ 6) ∧ (a ++ b).Nodup
theorem turnT_eq {a b : List Int} (h : okTurn a b) : turnT a b = turnUp a b (a.length - 1) ++ [rd b ((a.length - 1 : Nat) : Int), rd a ((a.length - 1 : Nat) : Int)] := if_pos h
theorem turnT_perm {a b : List Int} (h : okTurn a b) : (turnT a b).Perm (a ++ b) := by
  have h2 := h
  obtain ⟨hb, hr, hn⟩ := h2
  have e := flat_prs a b a.length a.length 0 (by omega) (by omega)
  have hp := prs_perm a b a.length rfl hb.symm a.length 0 (by omega)
  simp only [turnUp, List.nil_append, List.drop_zero] at e hp
  rw [turnT_eq h, ← e]
  exact hp
theorem turn_okk {a b : List Int} (h : 0 < (turnT a b).length) : okTurn a b := by
  unfold turnT at h
  split at h
  · assumption
  · simp at h
theorem rd_mem {a : List Int} {j : Nat} (h : j < a.length) : rd a (j : Int) ∈ a := by
  rw [rd_at h]
  exact List.getElem_mem _
theorem apart {a b : List Int} (h : (a ++ b).Nodup) : (∀ x ∈ a, x ∉ b) ∧ (∀ x ∈ b, x ∉ a) := by
  have := (List.nodup_append.1 h).2.2
  exact ⟨fun x hx hb => this x hx x hb rfl, fun x hb hx => this x hx x hb rfl⟩
theorem fair_in {s rest : List Int} {x y : Int} (hx : x ∈ s) (hy : y ∉ s) : fairF s 0 (x :: y :: rest) = fairF s 0 rest := by
  have e1 : inR (0 + 1) (-1) 1 = true := by decide
  have e2 : inR (0 + 1 - 1) (-1) 1 = true := by decide
  rw [fairF, if_pos hx, fairF, if_neg hy, e1, e2]
  simp
theorem fair_out {s rest : List Int} {x y : Int} (hx : x ∉ s) (hy : y ∈ s) : fairF s 0 (x :: y :: rest) = fairF s 0 rest := by
  have e1 : inR (0 - 1) (-1) 1 = true := by decide
  have e2 : inR (0 - 1 + 1) (-1) 1 = true := by decide
  rw [fairF, if_neg hx, fairF, if_pos hy, e1, e2]
  simp
theorem fair_up1 {a b s : List Int} : ∀ (i : Nat) (rest : List Int), (∀ j : Nat, j < i → rd a j ∈ s ∧ rd b j ∉ s) → fairF s 0 (turnUp a b i ++ rest) = fairF s 0 rest
  | 0, rest, _ => by simp [turnUp]
  | i + 1, rest, h => by
    have e : turnUp a b (i + 1) ++ rest = turnUp a b i ++ (rd a (i : Int) :: rd b (i : Int) :: rest) := by simp [turnUp]
    rw [e, fair_up1 i _ (fun j hj => h j (by omega)), fair_in (h i (by omega)).1 (h i (by omega)).2]
theorem fair_up2 {a b s : List Int} : ∀ (i : Nat) (rest : List Int), (∀ j : Nat, j < i → rd a j ∉ s ∧ rd b j ∈ s) → fairF s 0 (turnUp a b i ++ rest) = fairF s 0 rest
  | 0, rest, _ => by simp [turnUp]
  | i + 1, rest, h => by
    have e : turnUp a b (i + 1) ++ rest = turnUp a b i ++ (rd a (i : Int) :: rd b (i : Int) :: rest) := by simp [turnUp]
    rw [e, fair_up2 i _ (fun j hj => h j (by omega)), fair_out (h i (by omega)).1 (h i (by omega)).2]
theorem turn_fair {a b : List Int} (h : okTurn a b) : fairF a 0 (turnT a b) = true ∧ fairF b 0 (turnT a b) = true := by
  rw [turnT_eq h]
  obtain ⟨hb, hr, hn⟩ := h
  have hd := apart hn
  constructor
  · rw [fair_up1 _ _ (fun j hj => ⟨rd_mem (by omega), hd.2 _ (rd_mem (by omega))⟩), fair_out (hd.2 _ (rd_mem (by omega))) (rd_mem (by omega))]
    rfl
  · rw [fair_up2 _ _ (fun j hj => ⟨hd.1 _ (rd_mem (by omega)), rd_mem (by omega)⟩), fair_in (rd_mem (by omega)) (hd.1 _ (rd_mem (by omega)))]
    rfl
def cnt (o s : List Int) : Nat := o.countP fun x => decide (x ∈ s)
theorem cnt_turn {a b : List Int} (h : okTurn a b) : cnt (turnT a b) a = a.length ∧ cnt (turnT a b) b = b.length := by
  have hp := turnT_perm h
  have hd := apart h.2.2
  have e1 : ∀ s : List Int, s.countP (fun x => decide (x ∈ s)) = s.length := fun s => List.countP_eq_length.2 (fun x hx => decide_eq_true hx)
  unfold cnt
  constructor
  · rw [hp.countP_eq, List.countP_append, e1, List.countP_eq_zero.2 (fun x hx => by simpa using hd.2 x hx)]
    rfl
  · rw [hp.countP_eq, List.countP_append, e1, List.countP_eq_zero.2 (fun x hx => by simpa using hd.1 x hx), Nat.zero_add]
end Go.Proofs.Ytadcndmhdbhfkaa.L
end

section
namespace Go.Proofs.Ytadcndmhdbhfkaa.A
open Go.RowKit Go.Proofs.YtadcndmhdbhfkaaW.PrintWords Go.Proofs.YtadcndmhdbhfkaaW.PrintLast Go.Proofs.YtadcndmhdbhfkaaW.PrintMore
attribute [local go_sem] max2_int min2_int max_two min_two max_three min_three max_four min_four   -- for this text's walks alone
set_option linter.unusedVariables false
set_option linter.unusedSimpArgs false
def spec_l1Int.f (s0_0 : List Int) (s0_1 : Int) (s0_2 : Int) (l1 : List Int) : Option (Int × Int × Int) := (spec_l1Below.f s0_0 s0_1 s0_2 (l1.length : Int)).bind fun bt263 => (if 0 ≤ bt263.1 then (if bt263.1 < (l1.length : Int) then (some (rd l1 bt263.1, bt263.2.1, bt263.2.2)) else (none)) else (none))
end Go.Proofs.Ytadcndmhdbhfkaa.A
end

section
set_option linter.unusedVariables false
set_option linter.unusedSimpArgs false
namespace Go.Proofs.Ytadcndmhdbhfkaa.L
open Go Go.RowKit Go.Proofs.Ytadcndmhdbhfkaa.A Go.Proofs.YtadcndmhdbhfkaaW.PrintWords
theorem bits255 (x : Int) : 0 ≤ Go.bits .and .i64 x 255 ∧ Go.bits .and .i64 x 255 ≤ 255 := by
  have h : ((BitVec.ofInt 64 x) &&& (BitVec.ofInt 64 255)).toNat ≤ 255 := by
    rw [BitVec.toNat_and]
    exact Nat.le_trans Nat.and_le_right (by decide)
  show 0 ≤ IntKind.i64.wrap (((BitVec.ofInt 64 x) &&& (BitVec.ofInt 64 255)).toNat : Int) ∧ IntKind.i64.wrap (((BitVec.ofInt 64 x) &&& (BitVec.ofInt 64 255)).toNat : Int) ≤ 255
  generalize ((BitVec.ofInt 64 x) &&& (BitVec.ofInt 64 255)).toNat = t at h ⊢
  rw [IntKind.wrap_i64]
  omega
def At (b : List Int) (i : Int) : Prop := b.length ≤ 1099511627776 ∧ 0 ≤ i ∧ i ≤ b.length
theorem Byte_eq (b : List Int) (i h : Int) (ha : At b i) : ∃ r i' h', spec_l1Byte.f b i h = some (r, i', h') ∧ 0 ≤ r ∧ r ≤ 255 ∧ At b i' := by
  unfold spec_l1Byte.f
  obtain ⟨hl, h0, h1⟩ := ha
  by_cases hlt : i < (b.length : Int)
  · rw [if_pos hlt, if_pos h0, w64 (x := i + 1) (by omega) (by omega)]
    refine ⟨_, _, _, rfl, (bits255 _).1, (bits255 _).2, hl, by omega, by omega⟩
  · rw [if_neg hlt]
    exact ⟨_, _, _, rfl, (bits255 _).1, (bits255 _).2, hl, h0, h1⟩
theorem Below_eq (b : List Int) (i h n : Int) (ha : At b i) : ∃ r i' h', spec_l1Below.f b i h n = some (r, i', h') ∧ 0 ≤ r ∧ (0 < n → r < n) ∧ (n ≤ 0 → r = 0) ∧ At b i' := by
  unfold spec_l1Below.f
  by_cases h0 : n ≤ 0
  · rw [if_pos h0]
    exact ⟨_, _, _, rfl, by omega, by omega, fun _ => rfl, ha⟩
  · rw [if_neg h0]
    by_cases h1 : n ≤ 256
    · rw [if_pos h1]
      obtain ⟨r, i1, h2, e, hr0, hr1, ha1⟩ := Byte_eq b i h ha
      rw [e]
      simp only [Option.bind_some]
      rw [if_neg (by omega)]
      refine ⟨_, _, _, rfl, ?_, fun _ => ?_, fun hn => absurd hn h0, ha1⟩
      · exact Int.tmod_nonneg _ hr0
      · exact Int.tmod_lt_of_pos _ (by omega)
    · rw [if_neg h1]
      obtain ⟨r, i1, h2, e, hr0, hr1, ha1⟩ := Byte_eq b i h ha
      rw [e]
      simp only [Option.bind_some]
      obtain ⟨r3, i3, h3, e3, hr30, hr31, ha3⟩ := Byte_eq b i1 h2 ha1
      rw [e3]
      simp only [Option.bind_some]
      obtain ⟨r4, i4, h4, e4, hr40, hr41, ha4⟩ := Byte_eq b i3 h3 ha3
      rw [e4]
      simp only [Option.bind_some]
      rw [if_neg (by omega)]
      refine ⟨_, _, _, rfl, ?_, fun _ => ?_, fun hn => absurd hn h0, ha4⟩
      · refine Int.tmod_nonneg _ ?_
        rw [w64 (x := r * 65536) (by omega) (by omega), w64 (x := r3 * 256) (by omega) (by omega), w64 (x := r * 65536 + r3 * 256) (by omega) (by omega), w64 (by omega) (by omega)]
        omega
      · exact Int.tmod_lt_of_pos _ (by omega)
theorem Once_eq (b : List Int) (i h n : Int) (ha : At b i) : ∃ r i' h', spec_l1Once.f b i h n = some (r, i', h') ∧ At b i' := by
  unfold spec_l1Once.f
  obtain ⟨r, i1, h2, e, _, _, _, ha1⟩ := Below_eq b i h n ha
  rw [e]
  exact ⟨_, _, _, rfl, ha1⟩
theorem New_l0 (b : List Int) (hl : b.length ≤ 1099511627776) : ∀ (d n : Nat) (h : Int), n + d = b.length → ∃ h', Ev (fun k => spec_l1New.l0 k b h (n : Int)) (b, 0, h') := by
  intro d
  induction d with
  | zero =>
    intro n h hd
    exact ⟨_, Ev.step (fun k => spec_l1New.l0.eq_2 ..) (Ev.neg (by omega) (Ev.now _))⟩
  | succ d ih =>
    intro n h hd
    by_cases h4 : (n : Int) < 4000
    · obtain ⟨h', e⟩ := ih (n + 1) (Go.bits .and .i64 (wrap64 ((wrap64 ((wrap64 (h * 137)) + (wrap64 (rd b n)))) + 11)) 1073741823) (by omega)
      refine ⟨h', Ev.step (fun k => spec_l1New.l0.eq_2 ..) (Ev.pos (by omega) (Ev.pos h4 (Ev.pos (by omega) ?_)))⟩
      simp only [w64s (show n < 4611686018427387904 by omega)]
      exact e
    · exact ⟨_, Ev.step (fun k => spec_l1New.l0.eq_2 ..) (Ev.pos (by omega) (Ev.neg h4 (Ev.now _)))⟩
theorem New_ev (b : List Int) (hl : b.length ≤ 1099511627776) : ∃ h, Ev (fun k => spec_l1New.f k b) (b, 0, h) := by
  unfold spec_l1New.f
  exact New_l0 b hl b.length 0 _ (by omega)
theorem big_eq (b : List Int) : laws_big.f b = some (decide ((b.length : Int) > 1048576)) := rfl
end Go.Proofs.Ytadcndmhdbhfkaa.L
end

section
set_option linter.unusedVariables false
set_option linter.unusedSimpArgs false
namespace Go.Proofs.Ytadcndmhdbhfkaa.L
open Go Go.RowKit Go.Proofs.Ytadcndmhdbhfkaa.A Go.Proofs.YtadcndmhdbhfkaaW.PrintWords
def lastB (l a : List Int) (b : Bool) : Nat → List Int
  | 0 => []
  | n + 1 => if (decide (rd l (n : Int) ∈ a) == b) = true then [rd l (n : Int)] else lastB l a b n
theorem lastB_len (l a : List Int) (b : Bool) : ∀ n, (lastB l a b n).length ≤ 1
  | 0 => by simp [lastB]
  | n + 1 => by
    simp only [lastB]
    split
    · simp
    · exact lastB_len l a b n
theorem iLast_l0 (l a : List Int) (b : Bool) (hl : l.length ≤ 1099511627776) (ha : a.length ≤ 1099511627776) : ∀ n : Nat, n ≤ l.length → Ev (fun k => impl_lastOf.l0 k l a b ((n : Int) - 1)) (lastB l a b n) := by
  intro n
  induction n with
  | zero => exact fun _ => Ev.step (fun k => impl_lastOf.l0.eq_2 ..) (Ev.neg (by omega) (Ev.now _))
  | succ n ih =>
    intro hn
    have e : ((n + 1 : Nat) : Int) - 1 = (n : Int) := by omega
    rw [e]
    refine Ev.step (fun k => impl_lastOf.l0.eq_2 ..) (Ev.pos (by omega) (Ev.pos (by omega) (Ev.pos (by omega) ?_)))
    refine Ev.bind (Contains_ev _ _ ha) ?_
    rw [lastB]
    refine Ev.ite (fun h => Ev.some_ (if_pos h).symm) (fun h => Ev.cast (r := lastB l a b n) ?_ (if_neg h).symm)
    rw [w64 (by omega) (by omega)]
    exact ih (by omega)
theorem iLast_ev (l a : List Int) (b : Bool) (hl : l.length ≤ 1099511627776) (ha : a.length ≤ 1099511627776) : Ev (fun k => impl_lastOf.f k l a b) (lastB l a b l.length) := by
  unfold impl_lastOf.f
  rw [w64 (by omega) (by omega)]
  exact iLast_l0 l a b hl ha l.length (Nat.le_refl _)
def replyT (l a : List Int) : List Int := lastB l a false l.length ++ lastB l a true l.length
theorem iReply_ev (l a : List Int) (hl : l.length ≤ 1099511627776) (ha : a.length ≤ 1099511627776) : Ev (fun k => impl_RightOfReply.f k l a) (replyT l a) := by
  unfold impl_RightOfReply.f replyT
  have h1 := lastB_len l a false l.length
  have h2 := lastB_len l a true l.length
  exact Ev.bind (iLast_ev l a false hl ha) (Ev.bind (iLast_ev l a true hl ha) (Ev.bind (conc2 _ _ (by omega) (by omega)) (Ev.now _)))
theorem reply_two (pre a : List Int) (x y : Int) (hx : x ∉ a) (hy : y ∈ a) : replyT (pre ++ [x, y]) a = [x, y] := by
  have hl : (pre ++ [x, y]).length = pre.length + 2 := by simp
  have e1 : rd (pre ++ [x, y]) ((pre.length + 1 : Nat) : Int) = y := by
    rw [rd_at (by simp)]
    simp
  have e0 : rd (pre ++ [x, y]) ((pre.length : Nat) : Int) = x := by
    rw [rd_at (by simp)]
    simp
  unfold replyT
  rw [hl]
  simp only [lastB]
  rw [e1, e0]
  simp [hx, hy]
theorem turn_reply {a b : List Int} (h : okTurn a b) : replyT (turnT a b) a = [rd b ((b.length - 1 : Nat) : Int), rd a ((a.length - 1 : Nat) : Int)] := by
  rw [turnT_eq h]
  obtain ⟨hb, hr, hn⟩ := h
  have hd := apart hn
  rw [reply_two _ _ _ _ (hd.2 _ (rd_mem (by omega))) (rd_mem (by omega)), hb]
theorem Count_l0 (s l : List Int) (hl : l.length ≤ 1099511627776) (hs : s.length ≤ 1099511627776) : ∀ (d n c : Nat), n + d = l.length → c ≤ n → Ev (fun k => impl_CountOf.l0 k s (c : Int) l (l.length : Int) (n : Int)) ((c + cnt (l.drop n) s : Nat) : Int) := by
  intro d
  induction d with
  | zero =>
    intro n c hd hc
    refine Ev.step (fun k => impl_CountOf.l0.eq_2 ..) (Ev.neg (by omega) (Ev.some_ ?_))
    rw [List.drop_eq_nil_of_le (by omega)]
    rfl
  | succ d ih =>
    intro n c hd hc
    have hn : n < l.length := by omega
    refine Ev.step (fun k => impl_CountOf.l0.eq_2 ..) (Ev.pos (by omega) (Ev.pos (by omega) (Ev.pos (by omega) ?_)))
    simp only [w64s (show n < 4611686018427387904 by omega), w64s (show c < 4611686018427387904 by omega), rd_at hn]
    refine Ev.bind (Contains_ev _ _ hs) ?_
    have ec : cnt (l.drop n) s = cnt (l.drop (n + 1)) s + (if l[n] ∈ s then 1 else 0) := by
      rw [List.drop_eq_getElem_cons hn, cnt, List.countP_cons]
      simp [cnt]
    rw [ec]
    refine Ev.ite (fun h => Ev.cast (ih (n + 1) (c + 1) (by omega) (by omega)) ?_) (fun h => Ev.cast (ih (n + 1) c (by omega) (by omega)) ?_)
    · rw [if_pos (of_decide_eq_true h)]
      congr 1
      omega
    · rw [if_neg (by simpa using h)]
      rfl
theorem Count_ev (l s : List Int) (hl : l.length ≤ 1099511627776) (hs : s.length ≤ 1099511627776) : Ev (fun k => impl_CountOf.f k l s) ((cnt l s : Nat) : Int) := by
  unfold impl_CountOf.f
  exact Ev.cast (Count_l0 s l hl hs l.length 0 0 (by omega) (by omega)) (by simp)
theorem contains_l0 (l : List Int) (x : Int) (hl : l.length ≤ 1099511627776) : ∀ (d n : Nat), n + d = l.length → Ev (fun k => laws_contains.l0 k l x (n : Int)) (decide (x ∈ l.drop n)) := by
  intro d
  induction d with
  | zero =>
    intro n hd
    refine Ev.step (fun k => laws_contains.l0.eq_2 ..) (Ev.neg (by omega) (Ev.some_ ?_))
    rw [List.drop_eq_nil_of_le (by omega)]
    simp
  | succ d ih =>
    intro n hd
    have hn : n < l.length := by omega
    refine Ev.step (fun k => laws_contains.l0.eq_2 ..) (Ev.pos (by omega) (Ev.pos (by omega) ?_))
    simp only [w64s (show n < 4611686018427387904 by omega), rd_at hn]
    rw [List.drop_eq_getElem_cons hn]
    refine Ev.ite (fun h => Ev.some_ ?_) (fun h => Ev.cast (ih (n + 1) (by omega)) ?_)
    · exact (decide_eq_true (by rw [← h]; exact List.mem_cons_self)).symm
    · have h2 : ¬ x = l[n] := fun e => h e.symm
      exact decide_eq_decide.2 ⟨fun hm => List.mem_cons_of_mem _ hm, fun hm => (List.mem_cons.1 hm).resolve_left h2⟩
theorem contains_ev (l : List Int) (x : Int) (hl : l.length ≤ 1099511627776) : Ev (fun k => laws_contains.f k l x) (decide (x ∈ l)) := by
  unfold laws_contains.f
  exact Ev.cast (contains_l0 l x hl l.length 0 (by omega)) (by simp)
theorem same_l0 (l : List Int) (hl : l.length ≤ 1099511627776) : ∀ (d n : Nat), n + d = l.length → Ev (fun k => laws_sameInts.l0 k l l (n : Int)) true := by
  intro d
  induction d with
  | zero =>
    intro n hd
    exact Ev.step (fun k => laws_sameInts.l0.eq_2 ..) (Ev.neg (by omega) (Ev.now _))
  | succ d ih =>
    intro n hd
    refine Ev.step (fun k => laws_sameInts.l0.eq_2 ..) (Ev.pos (by omega) (Ev.pos (by omega) (Ev.pos (by omega) (Ev.pos rfl ?_))))
    rw [w64s (show n < 4611686018427387904 by omega)]
    exact ih (n + 1) (by omega)
theorem same_ev (l : List Int) (hl : l.length ≤ 1099511627776) : Ev (fun k => laws_sameInts.f k l l) true := by
  unfold laws_sameInts.f
  exact Ev.pos rfl (same_l0 l hl l.length 0 (by omega))
theorem next_l0 (l : List Int) (x : Int) (hl : l.length ≤ 1099511627776) : ∀ (d n : Nat), n + d + 1 = l.length → ∃ v, Ev (fun k => impl_NextAfter.l0 k l x ((l.length : Int) - 1) (n : Int)) v ∧ (v = 0 ∨ v ∈ l ∧ x ∈ l) := by
  intro d
  induction d with
  | zero =>
    intro n hd
    exact ⟨0, Ev.step (fun k => impl_NextAfter.l0.eq_2 ..) (Ev.neg (by omega) (Ev.now _)), .inl rfl⟩
  | succ d ih =>
    intro n hd
    have hn : n < l.length := by omega
    have hn1 : n + 1 < l.length := by omega
    by_cases h : l[n] = x
    · refine ⟨l[n + 1], Ev.step (fun k => impl_NextAfter.l0.eq_2 ..) (Ev.pos (by omega) (Ev.pos (by omega) (Ev.pos (by omega) ?_))), .inr ⟨List.getElem_mem _, by rw [← h]; exact List.getElem_mem _⟩⟩
      simp only [w64s (show n < 4611686018427387904 by omega), rd_at hn, rd_at hn1]
      exact Ev.pos h (Ev.pos (by omega) (Ev.pos (by omega) (Ev.now _)))
    · obtain ⟨v, hv, hv2⟩ := ih (n + 1) (by omega)
      refine ⟨v, Ev.step (fun k => impl_NextAfter.l0.eq_2 ..) (Ev.pos (by omega) (Ev.pos (by omega) (Ev.pos (by omega) ?_))), hv2⟩
      simp only [w64s (show n < 4611686018427387904 by omega), rd_at hn]
      exact Ev.neg h hv
theorem next_ev (l : List Int) (x : Int) (hl : l.length ≤ 1099511627776) : ∃ v, Ev (fun k => impl_NextAfter.f k l x) v ∧ (v = 0 ∨ v ∈ l ∧ x ∈ l) := by
  unfold impl_NextAfter.f
  rw [w64 (by omega) (by omega)]
  by_cases h : l.length = 0
  · exact ⟨0, Ev.step (fun k => impl_NextAfter.l0.eq_2 ..) (Ev.neg (by omega) (Ev.now _)), .inl rfl⟩
  · exact next_l0 l x hl (l.length - 1) 0 (by omega)
theorem sides_l0 (c : List Int) : ∀ (d n : Nat) (a b : List Int) (i h : Int), At c i → n + d = 5 → 1 ≤ n → a.length + 1 = n → b.length + 1 = n → ∃ x y i' h', Ev (fun k => spec_l15Sides.l0 k a b (n : Int) c i h) (x, y, i', h') ∧ x.length ≤ 6 ∧ y.length ≤ 6 ∧ At c i' := by
  intro d
  induction d with
  | zero =>
    intro n a b i h ha hd h1 hx hy
    obtain ⟨r, i1, h1', e1, r0, r1, _, a1⟩ := Below_eq c i h 4 ha
    have hr := r1 (by omega)
    obtain ⟨r2, i2, h2, e2, r20, r21, _, a2⟩ := Below_eq c i1 h1' 8 a1
    have hs : Ev (fun k => spec_l15Sides.l0 k a b (n : Int) c i h) (if r2 = 0 then (a ++ [9], b, i2, h2) else if r2 = 1 then (a, b.set 0 (rd a 0), i2, h2) else (a, b, i2, h2)) := by
      refine Ev.step (fun k => spec_l15Sides.l0.eq_2 ..) (Ev.bnd e1 (Ev.neg (by rw [w64 (by omega) (by omega)]; omega) (Ev.bnd e2 ?_)))
      refine Ev.ite (fun h => Ev.pos (by omega) (Ev.some_ (by rw [if_pos h]))) (fun h => ?_)
      rw [if_neg h]
      refine Ev.ite (fun h => Ev.pos (by omega) (Ev.pos (by omega) (Ev.some_ (by rw [if_pos h]; rfl)))) (fun h => Ev.some_ (by rw [if_neg h]))
    refine ⟨_, _, _, _, Ev.cast hs (r' := ((if r2 = 0 then a ++ [9] else a), (if r2 = 0 then b else if r2 = 1 then b.set 0 (rd a 0) else b), i2, h2)) ?_, ?_, ?_, a2⟩
    · split
      · rfl
      · split <;> rfl
    · split
      · simp; omega
      · omega
    · split
      · omega
      · split
        · simp; omega
        · omega
  | succ d ih =>
    intro n a b i h ha hd h1 hx hy
    obtain ⟨r, i1, h1', e1, r0, r1, _, a1⟩ := Below_eq c i h 4 ha
    have hr := r1 (by omega)
    by_cases hle : (n : Int) ≤ 1 + r
    · obtain ⟨x, y, i3, h3, e3, hx3, hy3, a3⟩ := ih (n + 1) (a ++ [(n : Int)]) (b ++ [wrap64 (10 + (n : Int))]) i1 h1' a1 (by omega) (by omega) (by simp; omega) (by simp; omega)
      refine ⟨x, y, i3, h3, Ev.step (fun k => spec_l15Sides.l0.eq_2 ..) (Ev.bnd e1 (Ev.pos (by rw [w64 (by omega) (by omega)]; omega) (Ev.pos (by omega) (Ev.pos (by omega) ?_)))), hx3, hy3, a3⟩
      simp only [w64s (show n < 4611686018427387904 by omega)]
      exact e3
    · obtain ⟨r2, i2, h2, e2, r20, r21, _, a2⟩ := Below_eq c i1 h1' 8 a1
      have hs : Ev (fun k => spec_l15Sides.l0 k a b (n : Int) c i h) (if r2 = 0 then (a ++ [9], b, i2, h2) else if r2 = 1 then (a, b.set 0 (rd a 0), i2, h2) else (a, b, i2, h2)) := by
        refine Ev.step (fun k => spec_l15Sides.l0.eq_2 ..) (Ev.bnd e1 (Ev.neg (by rw [w64 (by omega) (by omega)]; omega) (Ev.bnd e2 ?_)))
        refine Ev.ite (fun h => Ev.pos (by omega) (Ev.some_ (by rw [if_pos h]))) (fun h => ?_)
        rw [if_neg h]
        refine Ev.ite (fun h => Ev.pos (by omega) (Ev.pos (by omega) (Ev.some_ (by rw [if_pos h]; rfl)))) (fun h => Ev.some_ (by rw [if_neg h]))
      refine ⟨_, _, _, _, Ev.cast hs (r' := ((if r2 = 0 then a ++ [9] else a), (if r2 = 0 then b else if r2 = 1 then b.set 0 (rd a 0) else b), i2, h2)) ?_, ?_, ?_, a2⟩
      · split
        · rfl
        · split <;> rfl
      · split
        · simp; omega
        · omega
      · split
        · omega
        · split
          · simp; omega
          · omega
theorem sides_ev (c : List Int) (i h : Int) (ha : At c i) : ∃ x y i' h', Ev (fun k => spec_l15Sides.f k c i h) (x, y, i', h') ∧ x.length ≤ 6 ∧ y.length ≤ 6 ∧ At c i' := by
  unfold spec_l15Sides.f
  exact sides_l0 c 4 1 [] [] i h ha rfl (Nat.le_refl _) rfl rfl
theorem DrawTurn_ev (c : List Int) (hc : c.length ≤ 1099511627776) : ∃ a b, Ev (fun k => spec_DrawTurnOrder.f k c) (a, b) ∧ a.length ≤ 6 ∧ b.length ≤ 6 := by
  obtain ⟨h, e⟩ := New_ev c hc
  obtain ⟨x, y, i2, h2, e2, hx, hy, _⟩ := sides_ev c 0 h ⟨hc, by omega, by omega⟩
  refine ⟨x, y, ?_, hx, hy⟩
  unfold spec_DrawTurnOrder.f
  exact Ev.bind e (Ev.bind e2 (Ev.now _))
theorem DrawFair_ev (c : List Int) (hc : c.length ≤ 1099511627776) : ∃ o a, Ev (fun k => spec_DrawIsFairOrder.f k c) (o, a) ∧ o.length ≤ 12 := by
  obtain ⟨h, e⟩ := New_ev c hc
  obtain ⟨x, y, i2, h2, e2, hx, hy, a2⟩ := sides_ev c 0 h ⟨hc, by omega, by omega⟩
  have hl := turnT_len x y
  by_cases h1 : ((turnT x y).length : Int) > 1
  · obtain ⟨q, i3, h3, e3, a3⟩ := Once_eq c i2 h2 3 a2
    by_cases hq : q = true
    · obtain ⟨r, i4, h4, e4, r0, r1, _, a4⟩ := Below_eq c i3 h3 ((turnT x y).length : Int) a3
      have hr := r1 (by omega)
      refine ⟨((turnT x y).set (0 : Int).toNat (rd (turnT x y) r)).set (r : Int).toNat (rd (turnT x y) 0), x, ?_, by simpa using hl⟩
      unfold spec_DrawIsFairOrder.f
      exact Ev.bind e (Ev.bind e2 (Ev.bind (sTurn_ev x y) (Ev.pos h1 (Ev.bnd e3 (Ev.pos hq (Ev.bnd e4 (Ev.pos (by omega) (Ev.pos r0 (Ev.pos hr (Ev.now _))))))))))
    · refine ⟨turnT x y, x, ?_, hl⟩
      unfold spec_DrawIsFairOrder.f
      exact Ev.bind e (Ev.bind e2 (Ev.bind (sTurn_ev x y) (Ev.pos h1 (Ev.bnd e3 (Ev.neg hq (Ev.now _))))))
  · refine ⟨turnT x y, x, ?_, hl⟩
    unfold spec_DrawIsFairOrder.f
    exact Ev.bind e (Ev.bind e2 (Ev.bind (sTurn_ev x y) (Ev.neg h1 (Ev.now _))))
theorem DrawNext_ev (c : List Int) (hc : c.length ≤ 1099511627776) : ∃ o w, Ev (fun k => spec_DrawNextAfter.f k c) (o, w) ∧ o.length ≤ 12 := by
  obtain ⟨o, a, e, ho⟩ := DrawFair_ev c hc
  obtain ⟨h, e1⟩ := New_ev c hc
  obtain ⟨r, i2, h2, e2, _, _, _, _⟩ := Below_eq c 0 h 16 ⟨hc, by omega, by omega⟩
  refine ⟨o, r, ?_, ho⟩
  unfold spec_DrawNextAfter.f
  exact Ev.bind e (Ev.bind e1 (Ev.bnd e2 (Ev.now _)))
end Go.Proofs.Ytadcndmhdbhfkaa.L
end

section
set_option linter.unusedVariables false
set_option linter.unusedSimpArgs false
namespace Go.Proofs.Ytadcndmhdbhfkaa.L
open Go Go.RowKit Go.Proofs.Ytadcndmhdbhfkaa.A Go.Proofs.YtadcndmhdbhfkaaW.PrintWords
theorem FnOrders_pure (l0 : List Int) (b0 : l0.length ≤ 9223372036854775807) : ∃ k, laws_FnOrders.f k l0 = some true := by
  refine Ev.rounds (g := fun k => laws_FnOrders.f k l0) ?_
  unfold laws_FnOrders.f
  refine Ev.bnd (big_eq l0) (Ev.ite (fun _ => Ev.now _) (fun hb => ?_))
  have hl : l0.length ≤ 1099511627776 := by simp only [decide_eq_true_eq] at hb; omega
  have hj : Ev (fun k => laws_FnOrders.j0 k l0 false) true := by
    obtain ⟨o, w, e, ho⟩ := DrawNext_ev l0 hl
    obtain ⟨v, hv, hv2⟩ := next_ev o w (by omega)
    refine Ev.step (fun k => laws_FnOrders.j0.eq_2 ..) (Ev.neg (by simp) (Ev.bind e (Ev.bind hv (Ev.ite (fun _ => Ev.now _) (fun h0 => ?_)))))
    have hm := hv2.resolve_left h0
    exact Ev.bind (contains_ev o v (by omega)) (Ev.pos (decide_eq_true hm.1) (Ev.bind (contains_ev o w (by omega)) (Ev.some_ (decide_eq_true hm.2))))
  obtain ⟨a, b, e, ha, hb6⟩ := DrawTurn_ev l0 hl
  refine Ev.bind e (Ev.bind (iTurn_ev a b (by omega) (by omega)) (Ev.bind (sTurn_ev a b) (Ev.pos rfl ?_)))
  have hlen := turnT_len a b
  refine Ev.ite (fun h => ?_) (fun _ => hj)
  have ho := turn_okk (a := a) (b := b) (by omega)
  have hp := (turnT_perm ho).length_eq
  rw [List.length_append] at hp
  have hf := turn_fair ho
  have hc := cnt_turn ho
  have h1 := ho.2.1
  have h2 := ho.1
  have e1 : wrap64 ((b.length : Int) - 1) = ((b.length - 1 : Nat) : Int) := by rw [w64 (by omega) (by omega)]; omega
  have e2 : wrap64 ((a.length : Int) - 1) = ((a.length - 1 : Nat) : Int) := by rw [w64 (by omega) (by omega)]; omega
  simp only [e1, e2]
  refine Ev.pos (by rw [w64 (by omega) (by omega), hp]; omega) ?_
  refine Ev.bind (Count_ev _ _ (by omega) (by omega)) (Ev.pos (by rw [hc.1]) ?_)
  refine Ev.bind (Count_ev _ _ (by omega) (by omega)) (Ev.pos (by rw [hc.2]) ?_)
  refine Ev.bind (iIsFairOrder_ev _ _ (by omega) (by omega)) (Ev.pos hf.1 ?_)
  refine Ev.bind (iIsFairOrder_ev _ _ (by omega) (by omega)) (Ev.pos hf.2 ?_)
  refine Ev.bind (iReply_ev _ _ (by omega) (by omega)) ?_
  refine Ev.pos (by omega) (Ev.pos (by omega) (Ev.pos (by omega) (Ev.pos (by omega) ?_)))
  rw [turn_reply ho]
  exact Ev.bind (same_ev _ (by simp)) hj
end Go.Proofs.Ytadcndmhdbhfkaa.L
end
