/- What the row FnRooms rests on, put together: A54, LOpen, A6, A7, A13, A14, A1, LRoom0, LStab, LAsgP, LAsg, A4, A5, LTurn, A19, LLarge, LRoomsP. No condition. -/
import Derived.Test.YtadcndmhdbhfkaaSFnRoomsx1
import Derived.Test.YtadcndmhdbhfkaaSFnRoomsx0
import Derived.Test.YtadcndmhdbhfkaaSFnRoomsx2
import Derived.Deep.Slices
import Derived.Deep.Fields
import Derived.ChangeSame
import Derived.Lib.SmallJoins
import Derived.Sort.LotA
section
namespace Go.Proofs.Ytadcndmhdbhfkaa.A
open Go.RowKit Go.Proofs.YtadcndmhdbhfkaaW.PrintWords Go.Proofs.YtadcndmhdbhfkaaW.PrintLast Go.Proofs.YtadcndmhdbhfkaaW.PrintMore
attribute [local go_sem] max2_int min2_int max_two min_two max_three min_three max_four min_four
set_option linter.unusedVariables false
set_option linter.unusedSimpArgs false
mutual
def laws_FnRooms.j0 : Nat → List Int → List (S73) → List Int → List Int → Bool → Option (Bool)
  | 0, _, _, _, _, _ => none
  | k + 1, x0, x3, x4, x5, x54 => if x54 = true then (some false) else (laws_FnRooms.l0 k x0 x3 x4 x5 0)
def laws_FnRooms.l0 : Nat → List Int → List (S73) → List Int → List Int → Int → Option (Bool)
  | 0, _, _, _, _, _ => none
  | k + 1, x0, x3, x4, x5, x9 => if x9 < (x5.length : Int) then (if 0 ≤ x9 then (if x9 ≤ (x5.length : Int) then ((laws_contains.f k (x5.take (x9 : Int).toNat) (rd x5 x9)).bind fun t416 => (if t416 = true then (some false) else (laws_FnRooms.l1 k x0 x3 x4 x5 x9 0))) else (none)) else (none)) else ((spec_DrawTurnedAway.f k x0).bind fun bt435 => ((impl_TurnedAway.f k bt435.1 bt435.2.1 bt435.2.2).bind fun t444 => ((impl_LargestRoom.f k x3).bind fun t445 => (if t444 ≥ (-1) then ((impl_SeatsIn.f k x3).bind fun t446 => (if t446 ≥ 0 then (if (x3.length : Int) > 0 then ((impl_AreRooms.f k x3).bind fun t447 => (if ((t445 != 0) == t447) = true then (if (x5.length : Int) = 0 then (some true) else ((laws_contains.f k x5 t445).bind fun t448 => (some t448))) else (some false))) else (if ((t445 != 0) == false) = true then (if (x5.length : Int) = 0 then (some true) else ((laws_contains.f k x5 t445).bind fun t449 => (some t449))) else (some false))) else (some false))) else (some false)))))
def laws_FnRooms.l1 : Nat → List Int → List (S73) → List Int → List Int → Int → Int → Option (Bool)
  | 0, _, _, _, _, _, _ => none
  | k + 1, x0, x3, x4, x5, x9, x10 => if x10 < x9 then (if 0 ≤ x9 then (if x9 < (x4.length : Int) then (if 0 ≤ x10 then (if x10 < (x4.length : Int) then (if (rd x4 x9) > (rd x4 x10) then (if x9 ≤ (wrap64 (x9 + 1)) then (if (wrap64 (x9 + 1)) ≤ (x5.length : Int) then ((impl_TurnedAway.f k x3 (([1000] : List Int)) ((x5.take ((wrap64 (x9 + 1)) : Int).toNat).drop (x9 : Int).toNat)).bind fun t426 => (if x10 ≤ (wrap64 (x10 + 1)) then (if (wrap64 (x10 + 1)) ≤ (x5.length : Int) then ((impl_TurnedAway.f k x3 (([1000] : List Int)) ((x5.take ((wrap64 (x10 + 1)) : Int).toNat).drop (x10 : Int).toNat)).bind fun t434 => (if t426 > t434 then (some false) else (laws_FnRooms.l1 k x0 x3 x4 x5 x9 (wrap64 (x10 + 1))))) else (none)) else (none))) else (none)) else (none)) else (laws_FnRooms.l1 k x0 x3 x4 x5 x9 (wrap64 (x10 + 1)))) else (none)) else (none)) else (none)) else (none)) else (laws_FnRooms.l0 k x0 x3 x4 x5 (wrap64 (x9 + 1)))
end
def laws_FnRooms.f (k : Nat) (l0 : List Int) : Option (Bool) := (laws_big.f l0).bind fun t396 => (if t396 = true then (some true) else ((spec_DrawAssignRooms.f k l0).bind fun bt397 => ((impl_AssignRooms.f k bt397.1 bt397.2).bind fun bt403 => ((spec_AssignRooms.f k bt397.1 bt397.2).bind fun bt407 => (if (bt403.2 != bt407.2) = true then (some false) else (if bt403.2 = true then (if (bt403.1.length : Int) = (bt397.2.length : Int) then (laws_FnRooms.j0 k l0 bt397.1 bt397.2 bt403.1 false) else (laws_FnRooms.j0 k l0 bt397.1 bt397.2 bt403.1 true)) else (laws_FnRooms.j0 k l0 bt397.1 bt397.2 bt403.1 (decide ((bt403.1.length : Int) > 0)))))))))
def laws_FnRooms.T13 : Bool × List (List Nat × List Nat) := (true, [([], []), ([], []), ([0, 1], [0, 1]), ([], []), ([], []), ([3, 4], [3, 4]), ([5], [5]), ([2, 6], [2, 6])])
def laws_FnRooms.B13 : List Nat := [0, 0, 3, 0, 0, 24, 56, 127]
theorem laws_FnRooms.tab13 : rtab .any (opsOf Try.f6 13) = laws_FnRooms.T13 := by kernel_rfl
theorem laws_FnRooms.bits13 : waitsOk laws_FnRooms.T13.2 laws_FnRooms.B13 = true := by kernel_rfl
def laws_FnRooms.T18 : Bool × List (List Nat × List Nat) := (true, [([], []), ([], []), ([0, 1], [0, 1]), ([2], [2]), ([], []), ([], []), ([4, 5], [4, 5]), ([6], [6]), ([3, 7], [3, 7]), ([8], [8]), ([9], [9]), ([9], [9]), ([9], [9]), ([9], [9]), ([9], [9]), ([14, 9], [9, 14]), ([12, 13, 15, 9], [9, 12, 13, 15]), ([10, 11, 16, 9, 9], [9, 10, 11, 16]), ([9], [9]), ([9], [9]), ([9], [9]), ([9], [9]), ([9], [9]), ([22, 9], [9, 22]), ([20, 21, 23, 9], [9, 20, 21, 23]), ([18, 19, 24, 17, 9], [9, 18, 19, 24]), ([17, 25, 9], [9, 17, 25]), ([9, 26], [9, 26])])
def laws_FnRooms.B18 : List Nat := [0, 0, 3, 7, 0, 0, 48, 112, 255, 511, 1023, 1023, 1023, 1023, 1023, 17407, 62463, 131071, 1023, 1023, 1023, 1023, 1023, 4195327, 15729663, 33554431, 67108863, 134217727]
theorem laws_FnRooms.tab18 : rtab .any (opsOf Try.f6 18) = laws_FnRooms.T18 := by kernel_rfl
theorem laws_FnRooms.bits18 : waitsOk laws_FnRooms.T18.2 laws_FnRooms.B18 = true := by kernel_rfl
set_option maxHeartbeats 8000000 in
set_option maxRecDepth 100000 in
theorem laws_FnRooms.calls (k : Nat) (A0 : Option Addr) (c0 : Nat) (l0 : List Int) (r : Bool) (w : World) (hr0 : Kd.C (Kd.int .u8) w A0 l0.length l0) (hc0 : l0.length ≤ c0) (h : laws_FnRooms.f k l0 = some r) :
  Calls Try.prog 6 #[.slice A0 l0.length c0] w fun e w' => e = .returned (.bool r) ∧ Below w.heap.size w w' := by
 have HR0 := Aside0.mk hr0
 have HC0 := Aside0.mk hc0
 clear hr0 hc0
 have HB := Aside0.mk (Below.refl w.heap.size w)
 have H : ((laws_big.f l0).bind fun t396 => (if t396 = true then (some true) else ((spec_DrawAssignRooms.f k l0).bind fun bt397 => ((impl_AssignRooms.f k bt397.1 bt397.2).bind fun bt403 => ((spec_AssignRooms.f k bt397.1 bt397.2).bind fun bt407 => (if (bt403.2 != bt407.2) = true then (some false) else (if bt403.2 = true then (if (bt403.1.length : Int) = (bt397.2.length : Int) then (laws_FnRooms.j0 k l0 bt397.1 bt397.2 bt403.1 false) else (laws_FnRooms.j0 k l0 bt397.1 bt397.2 bt403.1 true)) else (laws_FnRooms.j0 k l0 bt397.1 bt397.2 bt403.1 (decide ((bt403.1.length : Int) > 0)))))))))) = some r := h
 clear h
 replace H := Option.bind_eq_some_iff.mp H
 obtain ⟨t396, A20, H⟩ := H
 replace H : (if t396 = true then (some true) else ((spec_DrawAssignRooms.f k l0).bind fun bt397 => ((impl_AssignRooms.f k bt397.1 bt397.2).bind fun bt403 => ((spec_AssignRooms.f k bt397.1 bt397.2).bind fun bt407 => (if (bt403.2 != bt407.2) = true then (some false) else (if bt403.2 = true then (if (bt403.1.length : Int) = (bt397.2.length : Int) then (laws_FnRooms.j0 k l0 bt397.1 bt397.2 bt403.1 false) else (laws_FnRooms.j0 k l0 bt397.1 bt397.2 bt403.1 true)) else (laws_FnRooms.j0 k l0 bt397.1 bt397.2 bt403.1 (decide ((bt403.1.length : Int) > 0))))))))) = some r := H
 have A2 := Aside0.mk A20
 clear A20
 by_cases c3 : t396 = true
 rotate_left
 ·
  replace c3 := Bool.eq_false_iff.mpr c3
  subst c3
  have H1 : ((spec_DrawAssignRooms.f k l0).bind fun bt397 => ((impl_AssignRooms.f k bt397.1 bt397.2).bind fun bt403 => ((spec_AssignRooms.f k bt397.1 bt397.2).bind fun bt407 => (if (bt403.2 != bt407.2) = true then (some false) else (if bt403.2 = true then (if (bt403.1.length : Int) = (bt397.2.length : Int) then (laws_FnRooms.j0 k l0 bt397.1 bt397.2 bt403.1 false) else (laws_FnRooms.j0 k l0 bt397.1 bt397.2 bt403.1 true)) else (laws_FnRooms.j0 k l0 bt397.1 bt397.2 bt403.1 (decide ((bt403.1.length : Int) > 0)))))))) = some r := by rw [if_neg (show ¬ (false = true) by decide)] at H; exact H
  clear H
  have H := H1
  clear H1
  replace H := Option.bind_eq_some_iff.mp H
  obtain ⟨⟨t397, t398⟩, A40, H⟩ := H
  replace H : ((impl_AssignRooms.f k t397 t398).bind fun bt403 => ((spec_AssignRooms.f k t397 t398).bind fun bt407 => (if (bt403.2 != bt407.2) = true then (some false) else (if bt403.2 = true then (if (bt403.1.length : Int) = (t398.length : Int) then (laws_FnRooms.j0 k l0 t397 t398 bt403.1 false) else (laws_FnRooms.j0 k l0 t397 t398 bt403.1 true)) else (laws_FnRooms.j0 k l0 t397 t398 bt403.1 (decide ((bt403.1.length : Int) > 0))))))) = some r := H
  have A4 := Aside0.mk A40
  clear A40
  replace H := Option.bind_eq_some_iff.mp H
  obtain ⟨⟨t403, t404⟩, A50, H⟩ := H
  replace H : ((spec_AssignRooms.f k t397 t398).bind fun bt407 => (if (t404 != bt407.2) = true then (some false) else (if t404 = true then (if (t403.length : Int) = (t398.length : Int) then (laws_FnRooms.j0 k l0 t397 t398 t403 false) else (laws_FnRooms.j0 k l0 t397 t398 t403 true)) else (laws_FnRooms.j0 k l0 t397 t398 t403 (decide ((t403.length : Int) > 0)))))) = some r := H
  have A5 := Aside0.mk A50
  clear A50
  replace H := Option.bind_eq_some_iff.mp H
  obtain ⟨⟨t407, t408⟩, A60, H⟩ := H
  replace H : (if (t404 != t408) = true then (some false) else (if t404 = true then (if (t403.length : Int) = (t398.length : Int) then (laws_FnRooms.j0 k l0 t397 t398 t403 false) else (laws_FnRooms.j0 k l0 t397 t398 t403 true)) else (laws_FnRooms.j0 k l0 t397 t398 t403 (decide ((t403.length : Int) > 0))))) = some r := H
  have A6 := Aside0.mk A60
  clear A60
  by_cases c7 : (t404 != t408) = true
  rotate_left
  ·
   rw [if_neg c7] at H
   have c7b0 : (t404 != t408) = false := by simpa using c7
   (try (have c7b1 : decide (t404 = t408) = true := by simpa using c7))
   (try (have c7b2 : (t404 == t408) = true := by simpa using c7))
   clear c7
   have HC13 := Aside0.mk H
   clear H
   go_enter Try.func6, Try.ntmps6
   go_upto_region 8 with (first | ((with_reducible refine gate_callee (f := 26) rfl ?_); refine goesL_ (some 17) rfl rfl Try.func26 (by kernel_rfl) rfl #[.slice A0 l0.length c0] rfl (by (try simp only [List.map_toArray, List.map_cons, List.map_nil]); first | done | rfl | (simp only [List.length_drop, List.length_take]; rfl)) ?_; (with_reducible refine (laws_big.calls _ _ l0 false _ ?side1 ?side2 A2.out).mono ?_); (case side1 => repeat (first | exact HR0.out | (with_reducible refine Kd.C_alloc ?_ _) | (with_reducible refine Kd.C_drewN ?_ _) | (with_reducible refine Kd.C_drew ?_))); (case side2 => exact HC0.out); rintro e w' ⟨rfl, ⟨nd, rfl⟩⟩; refine ⟨_, rfl, ?_⟩) | ((with_reducible refine gate_callee (f := 27) rfl ?_); refine goesL_ (some 20) rfl rfl Try.func27 (by kernel_rfl) rfl #[.slice A0 l0.length c0] rfl (by (try simp only [List.map_toArray, List.map_cons, List.map_nil]); first | done | rfl | (simp only [List.length_drop, List.length_take]; rfl)) ?_; (with_reducible refine (spec_DrawAssignRooms.calls k _ _ l0 t397 t398 _ ?side1 ?side2 A4.out).mono ?_); (case side1 => repeat (first | exact HR0.out | (with_reducible refine Kd.C_alloc ?_ _) | (with_reducible refine Kd.C_drewN ?_ _) | (with_reducible refine Kd.C_drew ?_))); (case side2 => exact HC0.out); rintro e w14 ⟨v399, v401, rfl, ho0, ho1, hb⟩; refine ⟨_, rfl, ?_⟩; have n0_ := Aside0.mk (Kd.R_lower ho0 (below_size (by repeat (first | (with_reducible first | exact HB.out | apply below_alloc | apply pw_below_drewN | apply below_drew1) | exact HB.out)))); have n1_ := Aside0.mk (Kd.R_lower ho1 (below_size (by repeat (first | (with_reducible first | exact HB.out | apply below_alloc | apply pw_below_drewN | apply below_drew1) | exact HB.out)))); have n2_ := Aside0.mk (below_step (by repeat (first | (with_reducible first | exact HB.out | apply below_alloc | apply pw_below_drewN | apply below_drew1) | exact HB.out)) hb); clear HB; have HO400 := n0_; have HO402 := n1_; have HB := n2_; clear n0_ n1_ n2_; (try clear hb); (try clear hb2); (try clear hk); (try clear hi); (try clear ho0); (try clear ho1); obtain ⟨Ao15, co15, eo15⟩ := Kd.R_slice HO400.out; subst eo15; obtain ⟨Ao16, co16, eo16⟩ := Kd.R_slice HO402.out; subst eo16) | ((with_reducible refine gate_callee (f := 22) rfl ?_); refine goesL_ (some 26) rfl rfl Try.func22 (by kernel_rfl) rfl #[.slice Ao15 t397.length co15, .slice Ao16 t398.length co16] rfl (by (try simp only [List.map_toArray, List.map_cons, List.map_nil]); first | done | rfl | (simp only [List.length_drop, List.length_take]; rfl)) ?_; (with_reducible refine (impl_AssignRooms.calls k _ _ t397 _ _ t398 t403 t404 _ ?side1 ?side2 ?side3 ?side4 A5.out).mono ?_); (case side1 => repeat (first | exact (Kd.R_reads' HO400.out).2.2 | (with_reducible refine Kd.C_alloc ?_ _) | (with_reducible refine Kd.C_drewN ?_ _) | (with_reducible refine Kd.C_drew ?_))); (case side2 => exact (Kd.R_reads' HO400.out).2.1); (case side3 => repeat (first | exact (Kd.R_reads' HO402.out).2.2 | (with_reducible refine Kd.C_alloc ?_ _) | (with_reducible refine Kd.C_drewN ?_ _) | (with_reducible refine Kd.C_drew ?_))); (case side4 => exact (Kd.R_reads' HO402.out).2.1); rintro e w17 ⟨v405, rfl, ho0, hb⟩; refine ⟨_, rfl, ?_⟩; have n0_ := Aside0.mk (Kd.R_below (by (with_reducible repeat (first | apply Kd.R_alloc | apply Kd.R_drewN | apply Kd.R_drew)); exact HO400.out) hb); have n1_ := Aside0.mk (Kd.R_elder' (by (with_reducible repeat (first | apply Kd.R_alloc | apply Kd.R_drewN | apply Kd.R_drew)); exact HO402.out) (Kd.R_base ho0) hb); have n2_ := Aside0.mk (Kd.R_lower (Kd.R_new' ho0 (Kd.R_lt (by (with_reducible repeat (first | apply Kd.R_alloc | apply Kd.R_drewN | apply Kd.R_drew)); exact HO402.out))) (below_size (by repeat (first | (with_reducible first | exact HB.out | apply below_alloc | apply pw_below_drewN | apply below_drew1) | exact HB.out)))); have n3_ := Aside0.mk (below_step (by repeat (first | (with_reducible first | exact HB.out | apply below_alloc | apply pw_below_drewN | apply below_drew1) | exact HB.out)) hb); clear HO400; clear HO402; clear HB; have HO400 := n0_; have HO402 := n1_; have HO406 := n2_; have HB := n3_; clear n0_ n1_ n2_ n3_; (try clear hb); (try clear hb2); (try clear hk); (try clear hi); (try clear ho0)) | ((with_reducible refine gate_callee (f := 21) rfl ?_); refine goesL_ (some 32) rfl rfl Try.func21 (by kernel_rfl) rfl #[.slice Ao15 t397.length co15, .slice Ao16 t398.length co16] rfl (by (try simp only [List.map_toArray, List.map_cons, List.map_nil]); first | done | rfl | (simp only [List.length_drop, List.length_take]; rfl)) ?_; (with_reducible refine (spec_AssignRooms.calls k _ _ t397 _ _ t398 t407 t408 _ ?side1 ?side2 ?side3 ?side4 A6.out).mono ?_); (case side1 => repeat (first | exact (Kd.R_reads' HO400.out).2.2 | (with_reducible refine Kd.C_alloc ?_ _) | (with_reducible refine Kd.C_drewN ?_ _) | (with_reducible refine Kd.C_drew ?_))); (case side2 => exact (Kd.R_reads' HO400.out).2.1); (case side3 => repeat (first | exact (Kd.R_reads' HO402.out).2.2 | (with_reducible refine Kd.C_alloc ?_ _) | (with_reducible refine Kd.C_drewN ?_ _) | (with_reducible refine Kd.C_drew ?_))); (case side4 => exact (Kd.R_reads' HO402.out).2.1); rintro e w18 ⟨v409, rfl, ho0, hb⟩; refine ⟨_, rfl, ?_⟩; have n0_ := Aside0.mk (Kd.R_below (by (with_reducible repeat (first | apply Kd.R_alloc | apply Kd.R_drewN | apply Kd.R_drew)); exact HO400.out) hb); have n1_ := Aside0.mk (Kd.R_elder' (by (with_reducible repeat (first | apply Kd.R_alloc | apply Kd.R_drewN | apply Kd.R_drew)); exact HO402.out) (Kd.R_base ho0) hb); have n2_ := Aside0.mk (Kd.R_elder' (by (with_reducible repeat (first | apply Kd.R_alloc | apply Kd.R_drewN | apply Kd.R_drew)); exact HO406.out) (Kd.R_base ho0) hb); have n3_ := Aside0.mk (Kd.R_lower (Kd.R_new' (Kd.R_new' ho0 (Kd.R_lt (by (with_reducible repeat (first | apply Kd.R_alloc | apply Kd.R_drewN | apply Kd.R_drew)); exact HO402.out))) (Kd.R_lt (by (with_reducible repeat (first | apply Kd.R_alloc | apply Kd.R_drewN | apply Kd.R_drew)); exact HO406.out))) (below_size (by repeat (first | (with_reducible first | exact HB.out | apply below_alloc | apply pw_below_drewN | apply below_drew1) | exact HB.out)))); have n4_ := Aside0.mk (below_step (by repeat (first | (with_reducible first | exact HB.out | apply below_alloc | apply pw_below_drewN | apply below_drew1) | exact HB.out)) hb); clear HO400; clear HO402; clear HO406; clear HB; have HO400 := n0_; have HO402 := n1_; have HO406 := n2_; have HO410 := n3_; have HB := n4_; clear n0_ n1_ n2_ n3_ n4_; (try clear hb); (try clear hb2); (try clear hk); (try clear hi); (try clear ho0)))
   (try simp only [Act.put, Z1, Z2, Z3])
   go_cut [54] (fun v54 wc => ∃ (kq : Nat) (x54_12 : Bool), v54 = .bool x54_12 ∧ Aside0 (laws_FnRooms.j0 kq l0 t397 t398 t403 x54_12 = some r) ∧ Aside0 (kq ≤ k) ∧ Aside0 (Kd.R k73 73 wc w.heap.size (fun _ => True) (.slice Ao15 t397.length co15) t397) ∧ Aside0 (Kd.R (Kd.int .i64) 3 wc w.heap.size (fun k_ => some k_ ≠ (v405 : Value).ownBlock) (.slice Ao16 t398.length co16) t398) ∧ Aside0 (Kd.R (Kd.int .i64) 3 wc w.heap.size (fun k_ => some k_ ≠ ((.slice Ao16 t398.length co16) : Value).ownBlock) v405 t403) ∧ Aside0 (Below w.heap.size w wc))
   case first =>
    have H := HC13.out
    clear HC13
    by_cases c19 : t404 = true
    rotate_left
    ·
     replace c19 := Bool.eq_false_iff.mpr c19
     subst c19
     have H1 : (laws_FnRooms.j0 k l0 t397 t398 t403 (decide ((t403.length : Int) > 0))) = some r := by rw [if_neg (show ¬ (false = true) by decide)] at H; exact H
     clear H
     have H := H1
     clear H1
     have H' := Aside0.mk H
     clear H
     obtain ⟨Ao23, co23, eo23⟩ := Kd.R_slice HO406.out
     subst eo23
     go_wp2
     go_meet
     case rel => exact ⟨_, (decide ((t403.length : Int) > 0)), (by first | rfl | (simp; done) | (simp [*]; done)), H', ⟨by first | omega | exact Nat.le_refl _⟩, ⟨by (with_reducible repeat (first | apply Kd.R_alloc | apply Kd.R_drewN | apply Kd.R_drew)); exact HO400.out⟩, ⟨by (with_reducible repeat (first | apply Kd.R_alloc | apply Kd.R_drewN | apply Kd.R_drew)); exact Kd.R_mono HO402.out (fun _ hk => hk.1.2)⟩, ⟨by (with_reducible repeat (first | apply Kd.R_alloc | apply Kd.R_drewN | apply Kd.R_drew)); exact Kd.R_mono HO406.out (fun _ hk => hk.1.2)⟩, ⟨by repeat (first | (with_reducible first | exact HB.out | apply below_alloc | apply pw_below_drewN | apply below_drew1) | exact HB.out)⟩⟩
    subst c19
    have H1 : (if (t403.length : Int) = (t398.length : Int) then (laws_FnRooms.j0 k l0 t397 t398 t403 false) else (laws_FnRooms.j0 k l0 t397 t398 t403 true)) = some r := by rw [if_pos rfl] at H; exact H
    clear H
    have H := H1
    clear H1
    by_cases c20 : (t403.length : Int) = (t398.length : Int)
    rotate_left
    ·
     rw [if_neg c20] at H
     have c20b0 : ((t403.length : Int) == (t398.length : Int)) = false := beq_eq_false_iff_ne.mpr c20
     have c20b1 : ((t403.length : Int) != (t398.length : Int)) = true := bne_iff_ne.mpr c20
     have c20b2 : (t403.length == t398.length) = false := by first | simpa using c20 | (simp at c20 ⊢; omega)
     (first | rw [c20b0] | (simp only [i64_w, i32_w]; rw [c20b0]) | skip)
     have H' := Aside0.mk H
     clear H
     obtain ⟨Ao22, co22, eo22⟩ := Kd.R_slice HO406.out
     subst eo22
     go_wp2
     go_meet
     case rel => exact ⟨_, (true), (by first | rfl | (simp; done) | (simp [*]; done)), H', ⟨by first | omega | exact Nat.le_refl _⟩, ⟨by (with_reducible repeat (first | apply Kd.R_alloc | apply Kd.R_drewN | apply Kd.R_drew)); exact HO400.out⟩, ⟨by (with_reducible repeat (first | apply Kd.R_alloc | apply Kd.R_drewN | apply Kd.R_drew)); exact Kd.R_mono HO402.out (fun _ hk => hk.1.2)⟩, ⟨by (with_reducible repeat (first | apply Kd.R_alloc | apply Kd.R_drewN | apply Kd.R_drew)); exact Kd.R_mono HO406.out (fun _ hk => hk.1.2)⟩, ⟨by repeat (first | (with_reducible first | exact HB.out | apply below_alloc | apply pw_below_drewN | apply below_drew1) | exact HB.out)⟩⟩
    rw [if_pos c20] at H
    have c20b0 : ((t403.length : Int) == (t398.length : Int)) = true := beq_iff_eq.mpr c20
    have c20b1 : ((t403.length : Int) != (t398.length : Int)) = false := bne_eq_false_iff_eq.mpr c20
    have c20b2 : (t403.length == t398.length) = true := by first | simpa using c20 | (simp at c20 ⊢; omega)
    clear c20
    (first | rw [c20b0] | (simp only [i64_w, i32_w]; rw [c20b0]) | skip)
    have H' := Aside0.mk H
    clear H
    obtain ⟨Ao21, co21, eo21⟩ := Kd.R_slice HO406.out
    subst eo21
    go_wp2
    go_meet
    case rel => exact ⟨_, (false), (by first | rfl | (simp; done) | (simp [*]; done)), H', ⟨by first | omega | exact Nat.le_refl _⟩, ⟨by (with_reducible repeat (first | apply Kd.R_alloc | apply Kd.R_drewN | apply Kd.R_drew)); exact HO400.out⟩, ⟨by (with_reducible repeat (first | apply Kd.R_alloc | apply Kd.R_drewN | apply Kd.R_drew)); exact Kd.R_mono HO402.out (fun _ hk => hk.1.2)⟩, ⟨by (with_reducible repeat (first | apply Kd.R_alloc | apply Kd.R_drewN | apply Kd.R_drew)); exact Kd.R_mono HO406.out (fun _ hk => hk.1.2)⟩, ⟨by repeat (first | (with_reducible first | exact HB.out | apply below_alloc | apply pw_below_drewN | apply below_drew1) | exact HB.out)⟩⟩
   case rest =>
    clear HC13
    try clear c1
    try clear c2
    try clear p2
    try clear c3
    try clear c6
    try clear c7
    try clear c7b0
    try clear c7b1
    try clear c7b2
    try clear c19
    try clear c20
    try clear c20b0
    try clear c20b1
    try clear c20b2
    try clear c21
    try clear c22
    obtain ⟨kq, x54_12, rfl, HA, HJ12, HO_3, HO_4, HO_5, HB⟩ := hcut
    cases kq with
    | zero => exact absurd HA.out (by simp [laws_FnRooms.j0])
    | succ kj12 =>
     have H := HA.out
     clear HA
     simp only [laws_FnRooms.j0] at H
     by_cases c24 : x54_12 = true
     rotate_left
     ·
      replace c24 := Bool.eq_false_iff.mpr c24
      subst c24
      have H1 : (laws_FnRooms.l0 kj12 l0 t397 t398 t403 0) = some r := by rw [if_neg (show ¬ (false = true) by decide)] at H; exact H
      clear H
      have H := H1
      clear H1
      have H' := Aside0.mk H
      clear H
      go_wp2
      go_loopg [9] kj12 (fun kq v9 w' => ∃ (x9_2 : Int), v9 = .int .i64 x9_2 ∧ Aside0 (laws_FnRooms.l0 kq l0 t397 t398 t403 x9_2 = some r) ∧ Aside0 (kq ≤ kj12) ∧ Aside0 (Kd.R k73 73 w' w.heap.size (fun _ => True) (.slice Ao15 t397.length co15) t397) ∧ Aside0 (Kd.R (Kd.int .i64) 3 w' w.heap.size (fun k_ => some k_ ≠ (v405 : Value).ownBlock) (.slice Ao16 t398.length co16) t398) ∧ Aside0 (Kd.R (Kd.int .i64) 3 w' w.heap.size (fun k_ => some k_ ≠ ((.slice Ao16 t398.length co16) : Value).ownBlock) v405 t403) ∧ Aside0 (Below w.heap.size w w'))
      case atStart => exact ⟨(0), (by first | rfl | (simp; done) | (simp [*]; done)), H', ⟨Nat.le_refl _⟩, ⟨by (with_reducible repeat (first | apply Kd.R_alloc | apply Kd.R_drewN | apply Kd.R_drew)); exact HO_3.out⟩, ⟨by (with_reducible repeat (first | apply Kd.R_alloc | apply Kd.R_drewN | apply Kd.R_drew)); exact HO_4.out⟩, ⟨by (with_reducible repeat (first | apply Kd.R_alloc | apply Kd.R_drewN | apply Kd.R_drew)); exact HO_5.out⟩, ⟨by repeat (first | (with_reducible first | exact HB.out | apply below_alloc | apply pw_below_drewN | apply below_drew1) | exact HB.out)⟩⟩
      case round =>
       clear H'
       try clear c1
       try clear c2
       try clear p2
       try clear c3
       try clear c6
       try clear c7
       try clear c7b0
       try clear c7b1
       try clear c7b2
       try clear c19
       try clear c20
       try clear c20b0
       try clear c20b1
       try clear c20b2
       try clear c21
       try clear c22
       try clear c24
       try clear p2
       obtain ⟨x9_2, rfl, HA, HK2, HO_3, HO_4, HO_5, HB⟩ := hrel
       cases gk with
       | zero => exact absurd HA.out (by simp [laws_FnRooms.l0])
       | succ k2 =>
        have H := HA.out
        clear HA
        simp only [laws_FnRooms.l0] at H
        by_cases c25 : x9_2 < (t403.length : Int)
        rotate_left
        ·
         rw [if_neg c25] at H
         have c25b0 : decide (x9_2 < (t403.length : Int)) = false := decide_eq_false c25
         clear c25
         replace H := Option.bind_eq_some_iff.mp H
         obtain ⟨⟨t435, t436, t437⟩, A760, H⟩ := H
         replace H : ((impl_TurnedAway.f k2 t435 t436 t437).bind fun t444 => ((impl_LargestRoom.f k2 t397).bind fun t445 => (if t444 ≥ (-1) then ((impl_SeatsIn.f k2 t397).bind fun t446 => (if t446 ≥ 0 then (if (t397.length : Int) > 0 then ((impl_AreRooms.f k2 t397).bind fun t447 => (if ((t445 != 0) == t447) = true then (if (t403.length : Int) = 0 then (some true) else ((laws_contains.f k2 t403 t445).bind fun t448 => (some t448))) else (some false))) else (if ((t445 != 0) == false) = true then (if (t403.length : Int) = 0 then (some true) else ((laws_contains.f k2 t403 t445).bind fun t449 => (some t449))) else (some false))) else (some false))) else (some false)))) = some r := H
         have A76 := Aside0.mk A760
         clear A760
         replace H := Option.bind_eq_some_iff.mp H
         obtain ⟨t444, A770, H⟩ := H
         replace H : ((impl_LargestRoom.f k2 t397).bind fun t445 => (if t444 ≥ (-1) then ((impl_SeatsIn.f k2 t397).bind fun t446 => (if t446 ≥ 0 then (if (t397.length : Int) > 0 then ((impl_AreRooms.f k2 t397).bind fun t447 => (if ((t445 != 0) == t447) = true then (if (t403.length : Int) = 0 then (some true) else ((laws_contains.f k2 t403 t445).bind fun t448 => (some t448))) else (some false))) else (if ((t445 != 0) == false) = true then (if (t403.length : Int) = 0 then (some true) else ((laws_contains.f k2 t403 t445).bind fun t449 => (some t449))) else (some false))) else (some false))) else (some false))) = some r := H
         have A77 := Aside0.mk A770
         clear A770
         replace H := Option.bind_eq_some_iff.mp H
         obtain ⟨t445, A780, H⟩ := H
         replace H : (if t444 ≥ (-1) then ((impl_SeatsIn.f k2 t397).bind fun t446 => (if t446 ≥ 0 then (if (t397.length : Int) > 0 then ((impl_AreRooms.f k2 t397).bind fun t447 => (if ((t445 != 0) == t447) = true then (if (t403.length : Int) = 0 then (some true) else ((laws_contains.f k2 t403 t445).bind fun t448 => (some t448))) else (some false))) else (if ((t445 != 0) == false) = true then (if (t403.length : Int) = 0 then (some true) else ((laws_contains.f k2 t403 t445).bind fun t449 => (some t449))) else (some false))) else (some false))) else (some false)) = some r := H
         have A78 := Aside0.mk A780
         clear A780
         by_cases c79 : t444 ≥ (-1)
         rotate_left
         ·
          rw [if_neg c79] at H
          have c79b0 : decide ((-1) ≤ t444) = false := decide_eq_false c79
          clear c79
          obtain rfl := Option.some.inj H
          obtain ⟨Ao149, co149, eo149⟩ := Kd.R_slice HO_5.out
          subst eo149
          go_wp2_with (first | ((with_reducible refine gate_callee (f := 29) rfl ?_); refine goesL_ (some 104) rfl rfl Try.func29 (by kernel_rfl) rfl #[.slice A0 l0.length c0] rfl (by (try simp only [List.map_toArray, List.map_cons, List.map_nil]); first | done | rfl | (simp only [List.length_drop, List.length_take]; rfl)) ?_; (with_reducible refine (spec_DrawTurnedAway.calls k2 _ _ l0 t435 t436 t437 _ ?side1 ?side2 A76.out).mono ?_); (case side1 => repeat (first | exact (Kd.C_below HR0.out HB.out) | (with_reducible refine Kd.C_alloc ?_ _) | (with_reducible refine Kd.C_drewN ?_ _) | (with_reducible refine Kd.C_drew ?_))); (case side2 => exact HC0.out); rintro e w150 ⟨v438, v440, v442, rfl, ho0, ho1, ho2, hb⟩; refine ⟨_, rfl, ?_⟩; have n0_ := Aside0.mk (Kd.R_elder' (by (with_reducible repeat (first | apply Kd.R_alloc | apply Kd.R_drewN | apply Kd.R_drew)); exact HO_3.out) (Kd.R_base ho0) hb); have n1_ := Aside0.mk (Kd.R_mono (Kd.R_told (Kd.R_told (Kd.R_old (by (with_reducible repeat (first | apply Kd.R_alloc | apply Kd.R_drewN | apply Kd.R_drew)); exact HO_4.out) hb) (Kd.R_base ho1)) (Kd.R_base ho2)) (fun _ h_ => h_.1)); have n2_ := Aside0.mk (Kd.R_mono (Kd.R_told (Kd.R_told (Kd.R_old (by (with_reducible repeat (first | apply Kd.R_alloc | apply Kd.R_drewN | apply Kd.R_drew)); exact HO_5.out) hb) (Kd.R_base ho1)) (Kd.R_base ho2)) (fun _ h_ => h_.1)); have n3_ := Aside0.mk (Kd.R_lower (Kd.R_new' ho0 (Kd.R_lt (by (with_reducible repeat (first | apply Kd.R_alloc | apply Kd.R_drewN | apply Kd.R_drew)); exact HO_3.out))) (below_size (by repeat (first | (with_reducible first | exact HB.out | apply below_alloc | apply pw_below_drewN | apply below_drew1) | exact HB.out)))); have n4_ := Aside0.mk (Kd.R_lower (Kd.R_new' (Kd.R_new' ho1 (Kd.R_lt (by (with_reducible repeat (first | apply Kd.R_alloc | apply Kd.R_drewN | apply Kd.R_drew)); exact HO_4.out))) (Kd.R_lt (by (with_reducible repeat (first | apply Kd.R_alloc | apply Kd.R_drewN | apply Kd.R_drew)); exact HO_5.out))) (below_size (by repeat (first | (with_reducible first | exact HB.out | apply below_alloc | apply pw_below_drewN | apply below_drew1) | exact HB.out)))); have n5_ := Aside0.mk (Kd.R_lower (Kd.R_new' (Kd.R_new' ho2 (Kd.R_lt (by (with_reducible repeat (first | apply Kd.R_alloc | apply Kd.R_drewN | apply Kd.R_drew)); exact HO_4.out))) (Kd.R_lt (by (with_reducible repeat (first | apply Kd.R_alloc | apply Kd.R_drewN | apply Kd.R_drew)); exact HO_5.out))) (below_size (by repeat (first | (with_reducible first | exact HB.out | apply below_alloc | apply pw_below_drewN | apply below_drew1) | exact HB.out)))); have n6_ := Aside0.mk (below_step (by repeat (first | (with_reducible first | exact HB.out | apply below_alloc | apply pw_below_drewN | apply below_drew1) | exact HB.out)) hb); clear HO_3; clear HO_4; clear HO_5; clear HB; have HO_3 := n0_; have HO_4 := n1_; have HO_5 := n2_; have HO439 := n3_; have HO441 := n4_; have HO443 := n5_; have HB := n6_; clear n0_ n1_ n2_ n3_ n4_ n5_ n6_; (try clear hb); (try clear hb2); (try clear hk); (try clear hi); (try clear ho0); (try clear ho1); (try clear ho2); obtain ⟨Ao151, co151, eo151⟩ := Kd.R_slice HO439.out; subst eo151; obtain ⟨Ao152, co152, eo152⟩ := Kd.R_slice HO441.out; subst eo152; obtain ⟨Ao153, co153, eo153⟩ := Kd.R_slice HO443.out; subst eo153) | ((with_reducible refine gate_callee (f := 16) rfl ?_); refine goesL_ (some 111) rfl rfl Try.func16 (by kernel_rfl) rfl #[.slice Ao151 t435.length co151, .slice Ao152 t436.length co152, .slice Ao153 t437.length co153] rfl (by (try simp only [List.map_toArray, List.map_cons, List.map_nil]); first | done | rfl | (simp only [List.length_drop, List.length_take]; rfl)) ?_; (with_reducible refine (impl_TurnedAway.calls k2 _ _ t435 _ _ t436 _ _ t437 t444 _ ?side1 ?side2 ?side3 ?side4 ?side5 ?side6 A77.out).mono ?_); (case side1 => repeat (first | exact (Kd.R_reads' HO439.out).2.2 | (with_reducible refine Kd.C_alloc ?_ _) | (with_reducible refine Kd.C_drewN ?_ _) | (with_reducible refine Kd.C_drew ?_))); (case side2 => exact (Kd.R_reads' HO439.out).2.1); (case side3 => repeat (first | exact (Kd.R_reads' HO441.out).2.2 | (with_reducible refine Kd.C_alloc ?_ _) | (with_reducible refine Kd.C_drewN ?_ _) | (with_reducible refine Kd.C_drew ?_))); (case side4 => exact (Kd.R_reads' HO441.out).2.1); (case side5 => repeat (first | exact (Kd.R_reads' HO443.out).2.2 | (with_reducible refine Kd.C_alloc ?_ _) | (with_reducible refine Kd.C_drewN ?_ _) | (with_reducible refine Kd.C_drew ?_))); (case side6 => exact (Kd.R_reads' HO443.out).2.1); rintro e w154 ⟨rfl, hb⟩; refine ⟨_, rfl, ?_⟩; have n0_ := Aside0.mk (Kd.R_below (by (with_reducible repeat (first | apply Kd.R_alloc | apply Kd.R_drewN | apply Kd.R_drew)); exact HO_3.out) hb); have n1_ := Aside0.mk (Kd.R_below (by (with_reducible repeat (first | apply Kd.R_alloc | apply Kd.R_drewN | apply Kd.R_drew)); exact HO_4.out) hb); have n2_ := Aside0.mk (Kd.R_below (by (with_reducible repeat (first | apply Kd.R_alloc | apply Kd.R_drewN | apply Kd.R_drew)); exact HO_5.out) hb); have n3_ := Aside0.mk (Kd.R_below (by (with_reducible repeat (first | apply Kd.R_alloc | apply Kd.R_drewN | apply Kd.R_drew)); exact HO439.out) hb); have n4_ := Aside0.mk (Kd.R_below (by (with_reducible repeat (first | apply Kd.R_alloc | apply Kd.R_drewN | apply Kd.R_drew)); exact HO441.out) hb); have n5_ := Aside0.mk (Kd.R_below (by (with_reducible repeat (first | apply Kd.R_alloc | apply Kd.R_drewN | apply Kd.R_drew)); exact HO443.out) hb); have n6_ := Aside0.mk (below_step (by repeat (first | (with_reducible first | exact HB.out | apply below_alloc | apply pw_below_drewN | apply below_drew1) | exact HB.out)) hb); clear HO_3; clear HO_4; clear HO_5; clear HO439; clear HO441; clear HO443; clear HB; have HO_3 := n0_; have HO_4 := n1_; have HO_5 := n2_; have HO439 := n3_; have HO441 := n4_; have HO443 := n5_; have HB := n6_; clear n0_ n1_ n2_ n3_ n4_ n5_ n6_; (try clear hb); (try clear hb2); (try clear hk); (try clear hi)) | ((with_reducible refine gate_callee (f := 20) rfl ?_); refine goesL_ (some 113) rfl rfl Try.func20 (by kernel_rfl) rfl #[.slice Ao15 t397.length co15] rfl (by (try simp only [List.map_toArray, List.map_cons, List.map_nil]); first | done | rfl | (simp only [List.length_drop, List.length_take]; rfl)) ?_; (with_reducible refine (impl_LargestRoom.calls k2 _ _ t397 t445 _ ?side1 ?side2 A78.out).mono ?_); (case side1 => repeat (first | exact (Kd.R_reads' HO_3.out).2.2 | (with_reducible refine Kd.C_alloc ?_ _) | (with_reducible refine Kd.C_drewN ?_ _) | (with_reducible refine Kd.C_drew ?_))); (case side2 => exact (Kd.R_reads' HO_3.out).2.1); rintro e w155 ⟨rfl, hb⟩; refine ⟨_, rfl, ?_⟩; have n0_ := Aside0.mk (Kd.R_below (by (with_reducible repeat (first | apply Kd.R_alloc | apply Kd.R_drewN | apply Kd.R_drew)); exact HO_3.out) hb); have n1_ := Aside0.mk (Kd.R_below (by (with_reducible repeat (first | apply Kd.R_alloc | apply Kd.R_drewN | apply Kd.R_drew)); exact HO_4.out) hb); have n2_ := Aside0.mk (Kd.R_below (by (with_reducible repeat (first | apply Kd.R_alloc | apply Kd.R_drewN | apply Kd.R_drew)); exact HO_5.out) hb); have n3_ := Aside0.mk (Kd.R_below (by (with_reducible repeat (first | apply Kd.R_alloc | apply Kd.R_drewN | apply Kd.R_drew)); exact HO439.out) hb); have n4_ := Aside0.mk (Kd.R_below (by (with_reducible repeat (first | apply Kd.R_alloc | apply Kd.R_drewN | apply Kd.R_drew)); exact HO441.out) hb); have n5_ := Aside0.mk (Kd.R_below (by (with_reducible repeat (first | apply Kd.R_alloc | apply Kd.R_drewN | apply Kd.R_drew)); exact HO443.out) hb); have n6_ := Aside0.mk (below_step (by repeat (first | (with_reducible first | exact HB.out | apply below_alloc | apply pw_below_drewN | apply below_drew1) | exact HB.out)) hb); clear HO_3; clear HO_4; clear HO_5; clear HO439; clear HO441; clear HO443; clear HB; have HO_3 := n0_; have HO_4 := n1_; have HO_5 := n2_; have HO439 := n3_; have HO441 := n4_; have HO443 := n5_; have HB := n6_; clear n0_ n1_ n2_ n3_ n4_ n5_ n6_; (try clear hb); (try clear hb2); (try clear hk); (try clear hi)))
          all_goals (go_ret; exact ⟨by first | rfl | (simp [errW_none, errW_some] <;> rfl) | (simp [*, errW_none, errW_some] <;> rfl), by repeat (first | (with_reducible first | exact HB.out | apply below_alloc | apply pw_below_drewN | apply below_drew1) | exact HB.out)⟩)

         rw [if_pos c79] at H
         have c79b0 : decide ((-1) ≤ t444) = true := decide_eq_true c79
         clear c79
         replace H := Option.bind_eq_some_iff.mp H
         obtain ⟨t446, A800, H⟩ := H
         replace H : (if t446 ≥ 0 then (if (t397.length : Int) > 0 then ((impl_AreRooms.f k2 t397).bind fun t447 => (if ((t445 != 0) == t447) = true then (if (t403.length : Int) = 0 then (some true) else ((laws_contains.f k2 t403 t445).bind fun t448 => (some t448))) else (some false))) else (if ((t445 != 0) == false) = true then (if (t403.length : Int) = 0 then (some true) else ((laws_contains.f k2 t403 t445).bind fun t449 => (some t449))) else (some false))) else (some false)) = some r := H
         have A80 := Aside0.mk A800
         clear A800
         by_cases c81 : t446 ≥ 0
         rotate_left
         ·
          rw [if_neg c81] at H
          have c81b0 : decide (0 ≤ t446) = false := decide_eq_false c81
          clear c81
          obtain rfl := Option.some.inj H
          obtain ⟨Ao141, co141, eo141⟩ := Kd.R_slice HO_5.out
          subst eo141
          go_wp2_with (first | ((with_reducible refine gate_callee (f := 29) rfl ?_); refine goesL_ (some 104) rfl rfl Try.func29 (by kernel_rfl) rfl #[.slice A0 l0.length c0] rfl (by (try simp only [List.map_toArray, List.map_cons, List.map_nil]); first | done | rfl | (simp only [List.length_drop, List.length_take]; rfl)) ?_; (with_reducible refine (spec_DrawTurnedAway.calls k2 _ _ l0 t435 t436 t437 _ ?side1 ?side2 A76.out).mono ?_); (case side1 => repeat (first | exact (Kd.C_below HR0.out HB.out) | (with_reducible refine Kd.C_alloc ?_ _) | (with_reducible refine Kd.C_drewN ?_ _) | (with_reducible refine Kd.C_drew ?_))); (case side2 => exact HC0.out); rintro e w142 ⟨v438, v440, v442, rfl, ho0, ho1, ho2, hb⟩; refine ⟨_, rfl, ?_⟩; have n0_ := Aside0.mk (Kd.R_elder' (by (with_reducible repeat (first | apply Kd.R_alloc | apply Kd.R_drewN | apply Kd.R_drew)); exact HO_3.out) (Kd.R_base ho0) hb); have n1_ := Aside0.mk (Kd.R_mono (Kd.R_told (Kd.R_told (Kd.R_old (by (with_reducible repeat (first | apply Kd.R_alloc | apply Kd.R_drewN | apply Kd.R_drew)); exact HO_4.out) hb) (Kd.R_base ho1)) (Kd.R_base ho2)) (fun _ h_ => h_.1)); have n2_ := Aside0.mk (Kd.R_mono (Kd.R_told (Kd.R_told (Kd.R_old (by (with_reducible repeat (first | apply Kd.R_alloc | apply Kd.R_drewN | apply Kd.R_drew)); exact HO_5.out) hb) (Kd.R_base ho1)) (Kd.R_base ho2)) (fun _ h_ => h_.1)); have n3_ := Aside0.mk (Kd.R_lower (Kd.R_new' ho0 (Kd.R_lt (by (with_reducible repeat (first | apply Kd.R_alloc | apply Kd.R_drewN | apply Kd.R_drew)); exact HO_3.out))) (below_size (by repeat (first | (with_reducible first | exact HB.out | apply below_alloc | apply pw_below_drewN | apply below_drew1) | exact HB.out)))); have n4_ := Aside0.mk (Kd.R_lower (Kd.R_new' (Kd.R_new' ho1 (Kd.R_lt (by (with_reducible repeat (first | apply Kd.R_alloc | apply Kd.R_drewN | apply Kd.R_drew)); exact HO_4.out))) (Kd.R_lt (by (with_reducible repeat (first | apply Kd.R_alloc | apply Kd.R_drewN | apply Kd.R_drew)); exact HO_5.out))) (below_size (by repeat (first | (with_reducible first | exact HB.out | apply below_alloc | apply pw_below_drewN | apply below_drew1) | exact HB.out)))); have n5_ := Aside0.mk (Kd.R_lower (Kd.R_new' (Kd.R_new' ho2 (Kd.R_lt (by (with_reducible repeat (first | apply Kd.R_alloc | apply Kd.R_drewN | apply Kd.R_drew)); exact HO_4.out))) (Kd.R_lt (by (with_reducible repeat (first | apply Kd.R_alloc | apply Kd.R_drewN | apply Kd.R_drew)); exact HO_5.out))) (below_size (by repeat (first | (with_reducible first | exact HB.out | apply below_alloc | apply pw_below_drewN | apply below_drew1) | exact HB.out)))); have n6_ := Aside0.mk (below_step (by repeat (first | (with_reducible first | exact HB.out | apply below_alloc | apply pw_below_drewN | apply below_drew1) | exact HB.out)) hb); clear HO_3; clear HO_4; clear HO_5; clear HB; have HO_3 := n0_; have HO_4 := n1_; have HO_5 := n2_; have HO439 := n3_; have HO441 := n4_; have HO443 := n5_; have HB := n6_; clear n0_ n1_ n2_ n3_ n4_ n5_ n6_; (try clear hb); (try clear hb2); (try clear hk); (try clear hi); (try clear ho0); (try clear ho1); (try clear ho2); obtain ⟨Ao143, co143, eo143⟩ := Kd.R_slice HO439.out; subst eo143; obtain ⟨Ao144, co144, eo144⟩ := Kd.R_slice HO441.out; subst eo144; obtain ⟨Ao145, co145, eo145⟩ := Kd.R_slice HO443.out; subst eo145) | ((with_reducible refine gate_callee (f := 16) rfl ?_); refine goesL_ (some 111) rfl rfl Try.func16 (by kernel_rfl) rfl #[.slice Ao143 t435.length co143, .slice Ao144 t436.length co144, .slice Ao145 t437.length co145] rfl (by (try simp only [List.map_toArray, List.map_cons, List.map_nil]); first | done | rfl | (simp only [List.length_drop, List.length_take]; rfl)) ?_; (with_reducible refine (impl_TurnedAway.calls k2 _ _ t435 _ _ t436 _ _ t437 t444 _ ?side1 ?side2 ?side3 ?side4 ?side5 ?side6 A77.out).mono ?_); (case side1 => repeat (first | exact (Kd.R_reads' HO439.out).2.2 | (with_reducible refine Kd.C_alloc ?_ _) | (with_reducible refine Kd.C_drewN ?_ _) | (with_reducible refine Kd.C_drew ?_))); (case side2 => exact (Kd.R_reads' HO439.out).2.1); (case side3 => repeat (first | exact (Kd.R_reads' HO441.out).2.2 | (with_reducible refine Kd.C_alloc ?_ _) | (with_reducible refine Kd.C_drewN ?_ _) | (with_reducible refine Kd.C_drew ?_))); (case side4 => exact (Kd.R_reads' HO441.out).2.1); (case side5 => repeat (first | exact (Kd.R_reads' HO443.out).2.2 | (with_reducible refine Kd.C_alloc ?_ _) | (with_reducible refine Kd.C_drewN ?_ _) | (with_reducible refine Kd.C_drew ?_))); (case side6 => exact (Kd.R_reads' HO443.out).2.1); rintro e w146 ⟨rfl, hb⟩; refine ⟨_, rfl, ?_⟩; have n0_ := Aside0.mk (Kd.R_below (by (with_reducible repeat (first | apply Kd.R_alloc | apply Kd.R_drewN | apply Kd.R_drew)); exact HO_3.out) hb); have n1_ := Aside0.mk (Kd.R_below (by (with_reducible repeat (first | apply Kd.R_alloc | apply Kd.R_drewN | apply Kd.R_drew)); exact HO_4.out) hb); have n2_ := Aside0.mk (Kd.R_below (by (with_reducible repeat (first | apply Kd.R_alloc | apply Kd.R_drewN | apply Kd.R_drew)); exact HO_5.out) hb); have n3_ := Aside0.mk (Kd.R_below (by (with_reducible repeat (first | apply Kd.R_alloc | apply Kd.R_drewN | apply Kd.R_drew)); exact HO439.out) hb); have n4_ := Aside0.mk (Kd.R_below (by (with_reducible repeat (first | apply Kd.R_alloc | apply Kd.R_drewN | apply Kd.R_drew)); exact HO441.out) hb); have n5_ := Aside0.mk (Kd.R_below (by (with_reducible repeat (first | apply Kd.R_alloc | apply Kd.R_drewN | apply Kd.R_drew)); exact HO443.out) hb); have n6_ := Aside0.mk (below_step (by repeat (first | (with_reducible first | exact HB.out | apply below_alloc | apply pw_below_drewN | apply below_drew1) | exact HB.out)) hb); clear HO_3; clear HO_4; clear HO_5; clear HO439; clear HO441; clear HO443; clear HB; have HO_3 := n0_; have HO_4 := n1_; have HO_5 := n2_; have HO439 := n3_; have HO441 := n4_; have HO443 := n5_; have HB := n6_; clear n0_ n1_ n2_ n3_ n4_ n5_ n6_; (try clear hb); (try clear hb2); (try clear hk); (try clear hi)) | ((with_reducible refine gate_callee (f := 20) rfl ?_); refine goesL_ (some 113) rfl rfl Try.func20 (by kernel_rfl) rfl #[.slice Ao15 t397.length co15] rfl (by (try simp only [List.map_toArray, List.map_cons, List.map_nil]); first | done | rfl | (simp only [List.length_drop, List.length_take]; rfl)) ?_; (with_reducible refine (impl_LargestRoom.calls k2 _ _ t397 t445 _ ?side1 ?side2 A78.out).mono ?_); (case side1 => repeat (first | exact (Kd.R_reads' HO_3.out).2.2 | (with_reducible refine Kd.C_alloc ?_ _) | (with_reducible refine Kd.C_drewN ?_ _) | (with_reducible refine Kd.C_drew ?_))); (case side2 => exact (Kd.R_reads' HO_3.out).2.1); rintro e w147 ⟨rfl, hb⟩; refine ⟨_, rfl, ?_⟩; have n0_ := Aside0.mk (Kd.R_below (by (with_reducible repeat (first | apply Kd.R_alloc | apply Kd.R_drewN | apply Kd.R_drew)); exact HO_3.out) hb); have n1_ := Aside0.mk (Kd.R_below (by (with_reducible repeat (first | apply Kd.R_alloc | apply Kd.R_drewN | apply Kd.R_drew)); exact HO_4.out) hb); have n2_ := Aside0.mk (Kd.R_below (by (with_reducible repeat (first | apply Kd.R_alloc | apply Kd.R_drewN | apply Kd.R_drew)); exact HO_5.out) hb); have n3_ := Aside0.mk (Kd.R_below (by (with_reducible repeat (first | apply Kd.R_alloc | apply Kd.R_drewN | apply Kd.R_drew)); exact HO439.out) hb); have n4_ := Aside0.mk (Kd.R_below (by (with_reducible repeat (first | apply Kd.R_alloc | apply Kd.R_drewN | apply Kd.R_drew)); exact HO441.out) hb); have n5_ := Aside0.mk (Kd.R_below (by (with_reducible repeat (first | apply Kd.R_alloc | apply Kd.R_drewN | apply Kd.R_drew)); exact HO443.out) hb); have n6_ := Aside0.mk (below_step (by repeat (first | (with_reducible first | exact HB.out | apply below_alloc | apply pw_below_drewN | apply below_drew1) | exact HB.out)) hb); clear HO_3; clear HO_4; clear HO_5; clear HO439; clear HO441; clear HO443; clear HB; have HO_3 := n0_; have HO_4 := n1_; have HO_5 := n2_; have HO439 := n3_; have HO441 := n4_; have HO443 := n5_; have HB := n6_; clear n0_ n1_ n2_ n3_ n4_ n5_ n6_; (try clear hb); (try clear hb2); (try clear hk); (try clear hi)) | (go_at_call 30; (with_reducible refine (impl_SeatsIn.calls k2 _ _ t397 t446 _ ?side1 ?side2 A80.out).mono ?_); (case side1 => repeat (first | exact (Kd.R_reads' HO_3.out).2.2 | (with_reducible refine Kd.C_alloc ?_ _) | (with_reducible refine Kd.C_drewN ?_ _) | (with_reducible refine Kd.C_drew ?_))); (case side2 => exact (Kd.R_reads' HO_3.out).2.1); rintro e w148 ⟨rfl, hb⟩; have n0_ := Aside0.mk (Kd.R_below (by (with_reducible repeat (first | apply Kd.R_alloc | apply Kd.R_drewN | apply Kd.R_drew)); exact HO_3.out) hb); have n1_ := Aside0.mk (Kd.R_below (by (with_reducible repeat (first | apply Kd.R_alloc | apply Kd.R_drewN | apply Kd.R_drew)); exact HO_4.out) hb); have n2_ := Aside0.mk (Kd.R_below (by (with_reducible repeat (first | apply Kd.R_alloc | apply Kd.R_drewN | apply Kd.R_drew)); exact HO_5.out) hb); have n3_ := Aside0.mk (Kd.R_below (by (with_reducible repeat (first | apply Kd.R_alloc | apply Kd.R_drewN | apply Kd.R_drew)); exact HO439.out) hb); have n4_ := Aside0.mk (Kd.R_below (by (with_reducible repeat (first | apply Kd.R_alloc | apply Kd.R_drewN | apply Kd.R_drew)); exact HO441.out) hb); have n5_ := Aside0.mk (Kd.R_below (by (with_reducible repeat (first | apply Kd.R_alloc | apply Kd.R_drewN | apply Kd.R_drew)); exact HO443.out) hb); have n6_ := Aside0.mk (below_step (by repeat (first | (with_reducible first | exact HB.out | apply below_alloc | apply pw_below_drewN | apply below_drew1) | exact HB.out)) hb); clear HO_3; clear HO_4; clear HO_5; clear HO439; clear HO441; clear HO443; clear HB; have HO_3 := n0_; have HO_4 := n1_; have HO_5 := n2_; have HO439 := n3_; have HO441 := n4_; have HO443 := n5_; have HB := n6_; clear n0_ n1_ n2_ n3_ n4_ n5_ n6_; (try clear hb); (try clear hb2); (try clear hk); (try clear hi)))
          all_goals (go_ret; exact ⟨by first | rfl | (simp [errW_none, errW_some] <;> rfl) | (simp [*, errW_none, errW_some] <;> rfl), by repeat (first | (with_reducible first | exact HB.out | apply below_alloc | apply pw_below_drewN | apply below_drew1) | exact HB.out)⟩)
         rw [if_pos c81] at H
         have c81b0 : decide (0 ≤ t446) = true := decide_eq_true c81
         clear c81
         by_cases c82 : (t397.length : Int) > 0
         rotate_left
         ·
          rw [if_neg c82] at H
          have c82b0 : decide (0 < (t397.length : Int)) = false := decide_eq_false c82
          have c82b1 : decide (0 < t397.length) = false := decide_eq_false (by omega)
          clear c82
          by_cases c114 : ((t445 != 0) == false) = true
          rotate_left
          ·
           rw [if_neg c114] at H
           have c114b0 : ((t445 != 0) == false) = false := by simpa using c114
           (try (have c114b1 : decide ((t445 != 0) = false) = false := by simpa using c114))
           (try (have c114b2 : ((t445 != 0) == false) = false := by simpa using c114))
           (try (have c114b3 : ¬ ((t445 != 0) = false) := by simpa using c114))
           clear c114
           obtain rfl := Option.some.inj H
           obtain ⟨Ao133, co133, eo133⟩ := Kd.R_slice HO_5.out
           subst eo133
           go_wp2_with (first | ((with_reducible refine gate_callee (f := 29) rfl ?_); refine goesL_ (some 104) rfl rfl Try.func29 (by kernel_rfl) rfl #[.slice A0 l0.length c0] rfl (by (try simp only [List.map_toArray, List.map_cons, List.map_nil]); first | done | rfl | (simp only [List.length_drop, List.length_take]; rfl)) ?_; (with_reducible refine (spec_DrawTurnedAway.calls k2 _ _ l0 t435 t436 t437 _ ?side1 ?side2 A76.out).mono ?_); (case side1 => repeat (first | exact (Kd.C_below HR0.out HB.out) | (with_reducible refine Kd.C_alloc ?_ _) | (with_reducible refine Kd.C_drewN ?_ _) | (with_reducible refine Kd.C_drew ?_))); (case side2 => exact HC0.out); rintro e w134 ⟨v438, v440, v442, rfl, ho0, ho1, ho2, hb⟩; refine ⟨_, rfl, ?_⟩; have n0_ := Aside0.mk (Kd.R_elder' (by (with_reducible repeat (first | apply Kd.R_alloc | apply Kd.R_drewN | apply Kd.R_drew)); exact HO_3.out) (Kd.R_base ho0) hb); have n1_ := Aside0.mk (Kd.R_mono (Kd.R_told (Kd.R_told (Kd.R_old (by (with_reducible repeat (first | apply Kd.R_alloc | apply Kd.R_drewN | apply Kd.R_drew)); exact HO_4.out) hb) (Kd.R_base ho1)) (Kd.R_base ho2)) (fun _ h_ => h_.1)); have n2_ := Aside0.mk (Kd.R_mono (Kd.R_told (Kd.R_told (Kd.R_old (by (with_reducible repeat (first | apply Kd.R_alloc | apply Kd.R_drewN | apply Kd.R_drew)); exact HO_5.out) hb) (Kd.R_base ho1)) (Kd.R_base ho2)) (fun _ h_ => h_.1)); have n3_ := Aside0.mk (Kd.R_lower (Kd.R_new' ho0 (Kd.R_lt (by (with_reducible repeat (first | apply Kd.R_alloc | apply Kd.R_drewN | apply Kd.R_drew)); exact HO_3.out))) (below_size (by repeat (first | (with_reducible first | exact HB.out | apply below_alloc | apply pw_below_drewN | apply below_drew1) | exact HB.out)))); have n4_ := Aside0.mk (Kd.R_lower (Kd.R_new' (Kd.R_new' ho1 (Kd.R_lt (by (with_reducible repeat (first | apply Kd.R_alloc | apply Kd.R_drewN | apply Kd.R_drew)); exact HO_4.out))) (Kd.R_lt (by (with_reducible repeat (first | apply Kd.R_alloc | apply Kd.R_drewN | apply Kd.R_drew)); exact HO_5.out))) (below_size (by repeat (first | (with_reducible first | exact HB.out | apply below_alloc | apply pw_below_drewN | apply below_drew1) | exact HB.out)))); have n5_ := Aside0.mk (Kd.R_lower (Kd.R_new' (Kd.R_new' ho2 (Kd.R_lt (by (with_reducible repeat (first | apply Kd.R_alloc | apply Kd.R_drewN | apply Kd.R_drew)); exact HO_4.out))) (Kd.R_lt (by (with_reducible repeat (first | apply Kd.R_alloc | apply Kd.R_drewN | apply Kd.R_drew)); exact HO_5.out))) (below_size (by repeat (first | (with_reducible first | exact HB.out | apply below_alloc | apply pw_below_drewN | apply below_drew1) | exact HB.out)))); have n6_ := Aside0.mk (below_step (by repeat (first | (with_reducible first | exact HB.out | apply below_alloc | apply pw_below_drewN | apply below_drew1) | exact HB.out)) hb); clear HO_3; clear HO_4; clear HO_5; clear HB; have HO_3 := n0_; have HO_4 := n1_; have HO_5 := n2_; have HO439 := n3_; have HO441 := n4_; have HO443 := n5_; have HB := n6_; clear n0_ n1_ n2_ n3_ n4_ n5_ n6_; (try clear hb); (try clear hb2); (try clear hk); (try clear hi); (try clear ho0); (try clear ho1); (try clear ho2); obtain ⟨Ao135, co135, eo135⟩ := Kd.R_slice HO439.out; subst eo135; obtain ⟨Ao136, co136, eo136⟩ := Kd.R_slice HO441.out; subst eo136; obtain ⟨Ao137, co137, eo137⟩ := Kd.R_slice HO443.out; subst eo137) | ((with_reducible refine gate_callee (f := 16) rfl ?_); refine goesL_ (some 111) rfl rfl Try.func16 (by kernel_rfl) rfl #[.slice Ao135 t435.length co135, .slice Ao136 t436.length co136, .slice Ao137 t437.length co137] rfl (by (try simp only [List.map_toArray, List.map_cons, List.map_nil]); first | done | rfl | (simp only [List.length_drop, List.length_take]; rfl)) ?_; (with_reducible refine (impl_TurnedAway.calls k2 _ _ t435 _ _ t436 _ _ t437 t444 _ ?side1 ?side2 ?side3 ?side4 ?side5 ?side6 A77.out).mono ?_); (case side1 => repeat (first | exact (Kd.R_reads' HO439.out).2.2 | (with_reducible refine Kd.C_alloc ?_ _) | (with_reducible refine Kd.C_drewN ?_ _) | (with_reducible refine Kd.C_drew ?_))); (case side2 => exact (Kd.R_reads' HO439.out).2.1); (case side3 => repeat (first | exact (Kd.R_reads' HO441.out).2.2 | (with_reducible refine Kd.C_alloc ?_ _) | (with_reducible refine Kd.C_drewN ?_ _) | (with_reducible refine Kd.C_drew ?_))); (case side4 => exact (Kd.R_reads' HO441.out).2.1); (case side5 => repeat (first | exact (Kd.R_reads' HO443.out).2.2 | (with_reducible refine Kd.C_alloc ?_ _) | (with_reducible refine Kd.C_drewN ?_ _) | (with_reducible refine Kd.C_drew ?_))); (case side6 => exact (Kd.R_reads' HO443.out).2.1); rintro e w138 ⟨rfl, hb⟩; refine ⟨_, rfl, ?_⟩; have n0_ := Aside0.mk (Kd.R_below (by (with_reducible repeat (first | apply Kd.R_alloc | apply Kd.R_drewN | apply Kd.R_drew)); exact HO_3.out) hb); have n1_ := Aside0.mk (Kd.R_below (by (with_reducible repeat (first | apply Kd.R_alloc | apply Kd.R_drewN | apply Kd.R_drew)); exact HO_4.out) hb); have n2_ := Aside0.mk (Kd.R_below (by (with_reducible repeat (first | apply Kd.R_alloc | apply Kd.R_drewN | apply Kd.R_drew)); exact HO_5.out) hb); have n3_ := Aside0.mk (Kd.R_below (by (with_reducible repeat (first | apply Kd.R_alloc | apply Kd.R_drewN | apply Kd.R_drew)); exact HO439.out) hb); have n4_ := Aside0.mk (Kd.R_below (by (with_reducible repeat (first | apply Kd.R_alloc | apply Kd.R_drewN | apply Kd.R_drew)); exact HO441.out) hb); have n5_ := Aside0.mk (Kd.R_below (by (with_reducible repeat (first | apply Kd.R_alloc | apply Kd.R_drewN | apply Kd.R_drew)); exact HO443.out) hb); have n6_ := Aside0.mk (below_step (by repeat (first | (with_reducible first | exact HB.out | apply below_alloc | apply pw_below_drewN | apply below_drew1) | exact HB.out)) hb); clear HO_3; clear HO_4; clear HO_5; clear HO439; clear HO441; clear HO443; clear HB; have HO_3 := n0_; have HO_4 := n1_; have HO_5 := n2_; have HO439 := n3_; have HO441 := n4_; have HO443 := n5_; have HB := n6_; clear n0_ n1_ n2_ n3_ n4_ n5_ n6_; (try clear hb); (try clear hb2); (try clear hk); (try clear hi)) | ((with_reducible refine gate_callee (f := 20) rfl ?_); refine goesL_ (some 113) rfl rfl Try.func20 (by kernel_rfl) rfl #[.slice Ao15 t397.length co15] rfl (by (try simp only [List.map_toArray, List.map_cons, List.map_nil]); first | done | rfl | (simp only [List.length_drop, List.length_take]; rfl)) ?_; (with_reducible refine (impl_LargestRoom.calls k2 _ _ t397 t445 _ ?side1 ?side2 A78.out).mono ?_); (case side1 => repeat (first | exact (Kd.R_reads' HO_3.out).2.2 | (with_reducible refine Kd.C_alloc ?_ _) | (with_reducible refine Kd.C_drewN ?_ _) | (with_reducible refine Kd.C_drew ?_))); (case side2 => exact (Kd.R_reads' HO_3.out).2.1); rintro e w139 ⟨rfl, hb⟩; refine ⟨_, rfl, ?_⟩; have n0_ := Aside0.mk (Kd.R_below (by (with_reducible repeat (first | apply Kd.R_alloc | apply Kd.R_drewN | apply Kd.R_drew)); exact HO_3.out) hb); have n1_ := Aside0.mk (Kd.R_below (by (with_reducible repeat (first | apply Kd.R_alloc | apply Kd.R_drewN | apply Kd.R_drew)); exact HO_4.out) hb); have n2_ := Aside0.mk (Kd.R_below (by (with_reducible repeat (first | apply Kd.R_alloc | apply Kd.R_drewN | apply Kd.R_drew)); exact HO_5.out) hb); have n3_ := Aside0.mk (Kd.R_below (by (with_reducible repeat (first | apply Kd.R_alloc | apply Kd.R_drewN | apply Kd.R_drew)); exact HO439.out) hb); have n4_ := Aside0.mk (Kd.R_below (by (with_reducible repeat (first | apply Kd.R_alloc | apply Kd.R_drewN | apply Kd.R_drew)); exact HO441.out) hb); have n5_ := Aside0.mk (Kd.R_below (by (with_reducible repeat (first | apply Kd.R_alloc | apply Kd.R_drewN | apply Kd.R_drew)); exact HO443.out) hb); have n6_ := Aside0.mk (below_step (by repeat (first | (with_reducible first | exact HB.out | apply below_alloc | apply pw_below_drewN | apply below_drew1) | exact HB.out)) hb); clear HO_3; clear HO_4; clear HO_5; clear HO439; clear HO441; clear HO443; clear HB; have HO_3 := n0_; have HO_4 := n1_; have HO_5 := n2_; have HO439 := n3_; have HO441 := n4_; have HO443 := n5_; have HB := n6_; clear n0_ n1_ n2_ n3_ n4_ n5_ n6_; (try clear hb); (try clear hb2); (try clear hk); (try clear hi)) | (go_at_call 30; (with_reducible refine (impl_SeatsIn.calls k2 _ _ t397 t446 _ ?side1 ?side2 A80.out).mono ?_); (case side1 => repeat (first | exact (Kd.R_reads' HO_3.out).2.2 | (with_reducible refine Kd.C_alloc ?_ _) | (with_reducible refine Kd.C_drewN ?_ _) | (with_reducible refine Kd.C_drew ?_))); (case side2 => exact (Kd.R_reads' HO_3.out).2.1); rintro e w140 ⟨rfl, hb⟩; have n0_ := Aside0.mk (Kd.R_below (by (with_reducible repeat (first | apply Kd.R_alloc | apply Kd.R_drewN | apply Kd.R_drew)); exact HO_3.out) hb); have n1_ := Aside0.mk (Kd.R_below (by (with_reducible repeat (first | apply Kd.R_alloc | apply Kd.R_drewN | apply Kd.R_drew)); exact HO_4.out) hb); have n2_ := Aside0.mk (Kd.R_below (by (with_reducible repeat (first | apply Kd.R_alloc | apply Kd.R_drewN | apply Kd.R_drew)); exact HO_5.out) hb); have n3_ := Aside0.mk (Kd.R_below (by (with_reducible repeat (first | apply Kd.R_alloc | apply Kd.R_drewN | apply Kd.R_drew)); exact HO439.out) hb); have n4_ := Aside0.mk (Kd.R_below (by (with_reducible repeat (first | apply Kd.R_alloc | apply Kd.R_drewN | apply Kd.R_drew)); exact HO441.out) hb); have n5_ := Aside0.mk (Kd.R_below (by (with_reducible repeat (first | apply Kd.R_alloc | apply Kd.R_drewN | apply Kd.R_drew)); exact HO443.out) hb); have n6_ := Aside0.mk (below_step (by repeat (first | (with_reducible first | exact HB.out | apply below_alloc | apply pw_below_drewN | apply below_drew1) | exact HB.out)) hb); clear HO_3; clear HO_4; clear HO_5; clear HO439; clear HO441; clear HO443; clear HB; have HO_3 := n0_; have HO_4 := n1_; have HO_5 := n2_; have HO439 := n3_; have HO441 := n4_; have HO443 := n5_; have HB := n6_; clear n0_ n1_ n2_ n3_ n4_ n5_ n6_; (try clear hb); (try clear hb2); (try clear hk); (try clear hi)))
           all_goals (go_ret; exact ⟨by first | rfl | (simp [errW_none, errW_some] <;> rfl) | (simp [*, errW_none, errW_some] <;> rfl), by repeat (first | (with_reducible first | exact HB.out | apply below_alloc | apply pw_below_drewN | apply below_drew1) | exact HB.out)⟩)
          rw [if_pos c114] at H
          have c114b0 : ((t445 != 0) == false) = true := c114
          (try (have c114b1 : decide ((t445 != 0) = false) = true := by simpa using c114))
          (try (have c114b2 : ((t445 != 0) == false) = true := by simpa using c114))
          clear c114
          by_cases c115 : (t403.length : Int) = 0
          rotate_left
          ·
           rw [if_neg c115] at H
           have c115b0 : ((t403.length : Int) == 0) = false := beq_eq_false_iff_ne.mpr c115
           have c115b1 : ((t403.length : Int) != 0) = true := bne_iff_ne.mpr c115
           have c115b2 : ¬ (t403 = []) := fun h_ => c115 (by rw [h_]; rfl)
           replace H := Option.bind_eq_some_iff.mp H
           obtain ⟨t449, A1240, H⟩ := H
           replace H : (some t449) = some r := H
           have A124 := Aside0.mk A1240
           clear A1240
           obtain rfl := Option.some.inj H
           obtain ⟨Ao125, co125, eo125⟩ := Kd.R_slice HO_5.out
           subst eo125
           go_wp2_with (first | ((with_reducible refine gate_callee (f := 29) rfl ?_); refine goesL_ (some 104) rfl rfl Try.func29 (by kernel_rfl) rfl #[.slice A0 l0.length c0] rfl (by (try simp only [List.map_toArray, List.map_cons, List.map_nil]); first | done | rfl | (simp only [List.length_drop, List.length_take]; rfl)) ?_; (with_reducible refine (spec_DrawTurnedAway.calls k2 _ _ l0 t435 t436 t437 _ ?side1 ?side2 A76.out).mono ?_); (case side1 => repeat (first | exact (Kd.C_below HR0.out HB.out) | (with_reducible refine Kd.C_alloc ?_ _) | (with_reducible refine Kd.C_drewN ?_ _) | (with_reducible refine Kd.C_drew ?_))); (case side2 => exact HC0.out); rintro e w126 ⟨v438, v440, v442, rfl, ho0, ho1, ho2, hb⟩; refine ⟨_, rfl, ?_⟩; have n0_ := Aside0.mk (Kd.R_elder' (by (with_reducible repeat (first | apply Kd.R_alloc | apply Kd.R_drewN | apply Kd.R_drew)); exact HO_3.out) (Kd.R_base ho0) hb); have n1_ := Aside0.mk (Kd.R_mono (Kd.R_told (Kd.R_told (Kd.R_old (by (with_reducible repeat (first | apply Kd.R_alloc | apply Kd.R_drewN | apply Kd.R_drew)); exact HO_4.out) hb) (Kd.R_base ho1)) (Kd.R_base ho2)) (fun _ h_ => h_.1)); have n2_ := Aside0.mk (Kd.R_mono (Kd.R_told (Kd.R_told (Kd.R_old (by (with_reducible repeat (first | apply Kd.R_alloc | apply Kd.R_drewN | apply Kd.R_drew)); exact HO_5.out) hb) (Kd.R_base ho1)) (Kd.R_base ho2)) (fun _ h_ => h_.1)); have n3_ := Aside0.mk (Kd.R_lower (Kd.R_new' ho0 (Kd.R_lt (by (with_reducible repeat (first | apply Kd.R_alloc | apply Kd.R_drewN | apply Kd.R_drew)); exact HO_3.out))) (below_size (by repeat (first | (with_reducible first | exact HB.out | apply below_alloc | apply pw_below_drewN | apply below_drew1) | exact HB.out)))); have n4_ := Aside0.mk (Kd.R_lower (Kd.R_new' (Kd.R_new' ho1 (Kd.R_lt (by (with_reducible repeat (first | apply Kd.R_alloc | apply Kd.R_drewN | apply Kd.R_drew)); exact HO_4.out))) (Kd.R_lt (by (with_reducible repeat (first | apply Kd.R_alloc | apply Kd.R_drewN | apply Kd.R_drew)); exact HO_5.out))) (below_size (by repeat (first | (with_reducible first | exact HB.out | apply below_alloc | apply pw_below_drewN | apply below_drew1) | exact HB.out)))); have n5_ := Aside0.mk (Kd.R_lower (Kd.R_new' (Kd.R_new' ho2 (Kd.R_lt (by (with_reducible repeat (first | apply Kd.R_alloc | apply Kd.R_drewN | apply Kd.R_drew)); exact HO_4.out))) (Kd.R_lt (by (with_reducible repeat (first | apply Kd.R_alloc | apply Kd.R_drewN | apply Kd.R_drew)); exact HO_5.out))) (below_size (by repeat (first | (with_reducible first | exact HB.out | apply below_alloc | apply pw_below_drewN | apply below_drew1) | exact HB.out)))); have n6_ := Aside0.mk (below_step (by repeat (first | (with_reducible first | exact HB.out | apply below_alloc | apply pw_below_drewN | apply below_drew1) | exact HB.out)) hb); clear HO_3; clear HO_4; clear HO_5; clear HB; have HO_3 := n0_; have HO_4 := n1_; have HO_5 := n2_; have HO439 := n3_; have HO441 := n4_; have HO443 := n5_; have HB := n6_; clear n0_ n1_ n2_ n3_ n4_ n5_ n6_; (try clear hb); (try clear hb2); (try clear hk); (try clear hi); (try clear ho0); (try clear ho1); (try clear ho2); obtain ⟨Ao127, co127, eo127⟩ := Kd.R_slice HO439.out; subst eo127; obtain ⟨Ao128, co128, eo128⟩ := Kd.R_slice HO441.out; subst eo128; obtain ⟨Ao129, co129, eo129⟩ := Kd.R_slice HO443.out; subst eo129) | ((with_reducible refine gate_callee (f := 16) rfl ?_); refine goesL_ (some 111) rfl rfl Try.func16 (by kernel_rfl) rfl #[.slice Ao127 t435.length co127, .slice Ao128 t436.length co128, .slice Ao129 t437.length co129] rfl (by (try simp only [List.map_toArray, List.map_cons, List.map_nil]); first | done | rfl | (simp only [List.length_drop, List.length_take]; rfl)) ?_; (with_reducible refine (impl_TurnedAway.calls k2 _ _ t435 _ _ t436 _ _ t437 t444 _ ?side1 ?side2 ?side3 ?side4 ?side5 ?side6 A77.out).mono ?_); (case side1 => repeat (first | exact (Kd.R_reads' HO439.out).2.2 | (with_reducible refine Kd.C_alloc ?_ _) | (with_reducible refine Kd.C_drewN ?_ _) | (with_reducible refine Kd.C_drew ?_))); (case side2 => exact (Kd.R_reads' HO439.out).2.1); (case side3 => repeat (first | exact (Kd.R_reads' HO441.out).2.2 | (with_reducible refine Kd.C_alloc ?_ _) | (with_reducible refine Kd.C_drewN ?_ _) | (with_reducible refine Kd.C_drew ?_))); (case side4 => exact (Kd.R_reads' HO441.out).2.1); (case side5 => repeat (first | exact (Kd.R_reads' HO443.out).2.2 | (with_reducible refine Kd.C_alloc ?_ _) | (with_reducible refine Kd.C_drewN ?_ _) | (with_reducible refine Kd.C_drew ?_))); (case side6 => exact (Kd.R_reads' HO443.out).2.1); rintro e w130 ⟨rfl, hb⟩; refine ⟨_, rfl, ?_⟩; have n0_ := Aside0.mk (Kd.R_below (by (with_reducible repeat (first | apply Kd.R_alloc | apply Kd.R_drewN | apply Kd.R_drew)); exact HO_3.out) hb); have n1_ := Aside0.mk (Kd.R_below (by (with_reducible repeat (first | apply Kd.R_alloc | apply Kd.R_drewN | apply Kd.R_drew)); exact HO_4.out) hb); have n2_ := Aside0.mk (Kd.R_below (by (with_reducible repeat (first | apply Kd.R_alloc | apply Kd.R_drewN | apply Kd.R_drew)); exact HO_5.out) hb); have n3_ := Aside0.mk (Kd.R_below (by (with_reducible repeat (first | apply Kd.R_alloc | apply Kd.R_drewN | apply Kd.R_drew)); exact HO439.out) hb); have n4_ := Aside0.mk (Kd.R_below (by (with_reducible repeat (first | apply Kd.R_alloc | apply Kd.R_drewN | apply Kd.R_drew)); exact HO441.out) hb); have n5_ := Aside0.mk (Kd.R_below (by (with_reducible repeat (first | apply Kd.R_alloc | apply Kd.R_drewN | apply Kd.R_drew)); exact HO443.out) hb); have n6_ := Aside0.mk (below_step (by repeat (first | (with_reducible first | exact HB.out | apply below_alloc | apply pw_below_drewN | apply below_drew1) | exact HB.out)) hb); clear HO_3; clear HO_4; clear HO_5; clear HO439; clear HO441; clear HO443; clear HB; have HO_3 := n0_; have HO_4 := n1_; have HO_5 := n2_; have HO439 := n3_; have HO441 := n4_; have HO443 := n5_; have HB := n6_; clear n0_ n1_ n2_ n3_ n4_ n5_ n6_; (try clear hb); (try clear hb2); (try clear hk); (try clear hi)) | ((with_reducible refine gate_callee (f := 20) rfl ?_); refine goesL_ (some 113) rfl rfl Try.func20 (by kernel_rfl) rfl #[.slice Ao15 t397.length co15] rfl (by (try simp only [List.map_toArray, List.map_cons, List.map_nil]); first | done | rfl | (simp only [List.length_drop, List.length_take]; rfl)) ?_; (with_reducible refine (impl_LargestRoom.calls k2 _ _ t397 t445 _ ?side1 ?side2 A78.out).mono ?_); (case side1 => repeat (first | exact (Kd.R_reads' HO_3.out).2.2 | (with_reducible refine Kd.C_alloc ?_ _) | (with_reducible refine Kd.C_drewN ?_ _) | (with_reducible refine Kd.C_drew ?_))); (case side2 => exact (Kd.R_reads' HO_3.out).2.1); rintro e w131 ⟨rfl, hb⟩; refine ⟨_, rfl, ?_⟩; have n0_ := Aside0.mk (Kd.R_below (by (with_reducible repeat (first | apply Kd.R_alloc | apply Kd.R_drewN | apply Kd.R_drew)); exact HO_3.out) hb); have n1_ := Aside0.mk (Kd.R_below (by (with_reducible repeat (first | apply Kd.R_alloc | apply Kd.R_drewN | apply Kd.R_drew)); exact HO_4.out) hb); have n2_ := Aside0.mk (Kd.R_below (by (with_reducible repeat (first | apply Kd.R_alloc | apply Kd.R_drewN | apply Kd.R_drew)); exact HO_5.out) hb); have n3_ := Aside0.mk (Kd.R_below (by (with_reducible repeat (first | apply Kd.R_alloc | apply Kd.R_drewN | apply Kd.R_drew)); exact HO439.out) hb); have n4_ := Aside0.mk (Kd.R_below (by (with_reducible repeat (first | apply Kd.R_alloc | apply Kd.R_drewN | apply Kd.R_drew)); exact HO441.out) hb); have n5_ := Aside0.mk (Kd.R_below (by (with_reducible repeat (first | apply Kd.R_alloc | apply Kd.R_drewN | apply Kd.R_drew)); exact HO443.out) hb); have n6_ := Aside0.mk (below_step (by repeat (first | (with_reducible first | exact HB.out | apply below_alloc | apply pw_below_drewN | apply below_drew1) | exact HB.out)) hb); clear HO_3; clear HO_4; clear HO_5; clear HO439; clear HO441; clear HO443; clear HB; have HO_3 := n0_; have HO_4 := n1_; have HO_5 := n2_; have HO439 := n3_; have HO441 := n4_; have HO443 := n5_; have HB := n6_; clear n0_ n1_ n2_ n3_ n4_ n5_ n6_; (try clear hb); (try clear hb2); (try clear hk); (try clear hi)) | (go_at_call 30; (with_reducible refine (impl_SeatsIn.calls k2 _ _ t397 t446 _ ?side1 ?side2 A80.out).mono ?_); (case side1 => repeat (first | exact (Kd.R_reads' HO_3.out).2.2 | (with_reducible refine Kd.C_alloc ?_ _) | (with_reducible refine Kd.C_drewN ?_ _) | (with_reducible refine Kd.C_drew ?_))); (case side2 => exact (Kd.R_reads' HO_3.out).2.1); rintro e w132 ⟨rfl, hb⟩; have n0_ := Aside0.mk (Kd.R_below (by (with_reducible repeat (first | apply Kd.R_alloc | apply Kd.R_drewN | apply Kd.R_drew)); exact HO_3.out) hb); have n1_ := Aside0.mk (Kd.R_below (by (with_reducible repeat (first | apply Kd.R_alloc | apply Kd.R_drewN | apply Kd.R_drew)); exact HO_4.out) hb); have n2_ := Aside0.mk (Kd.R_below (by (with_reducible repeat (first | apply Kd.R_alloc | apply Kd.R_drewN | apply Kd.R_drew)); exact HO_5.out) hb); have n3_ := Aside0.mk (Kd.R_below (by (with_reducible repeat (first | apply Kd.R_alloc | apply Kd.R_drewN | apply Kd.R_drew)); exact HO439.out) hb); have n4_ := Aside0.mk (Kd.R_below (by (with_reducible repeat (first | apply Kd.R_alloc | apply Kd.R_drewN | apply Kd.R_drew)); exact HO441.out) hb); have n5_ := Aside0.mk (Kd.R_below (by (with_reducible repeat (first | apply Kd.R_alloc | apply Kd.R_drewN | apply Kd.R_drew)); exact HO443.out) hb); have n6_ := Aside0.mk (below_step (by repeat (first | (with_reducible first | exact HB.out | apply below_alloc | apply pw_below_drewN | apply below_drew1) | exact HB.out)) hb); clear HO_3; clear HO_4; clear HO_5; clear HO439; clear HO441; clear HO443; clear HB; have HO_3 := n0_; have HO_4 := n1_; have HO_5 := n2_; have HO439 := n3_; have HO441 := n4_; have HO443 := n5_; have HB := n6_; clear n0_ n1_ n2_ n3_ n4_ n5_ n6_; (try clear hb); (try clear hb2); (try clear hk); (try clear hi)) | (go_at_call 28; (with_reducible refine (laws_contains.calls k2 _ _ t403 t445 t449 _ ?side1 ?side2 A124.out).mono ?_); (case side1 => repeat (first | exact (Kd.R_reads' HO_5.out).2.2 | (with_reducible refine Kd.C_alloc ?_ _) | (with_reducible refine Kd.C_drewN ?_ _) | (with_reducible refine Kd.C_drew ?_))); (case side2 => exact (Kd.R_reads' HO_5.out).2.1); rintro e w' ⟨rfl, ⟨nd, rfl⟩⟩))
           all_goals (go_ret; exact ⟨by first | rfl | (simp [errW_none, errW_some] <;> rfl) | (simp [*, errW_none, errW_some] <;> rfl), by repeat (first | (with_reducible first | exact HB.out | apply below_alloc | apply pw_below_drewN | apply below_drew1) | exact HB.out)⟩)
          rw [if_pos c115] at H
          have c115b0 : ((t403.length : Int) == 0) = true := beq_iff_eq.mpr c115
          have c115b1 : ((t403.length : Int) != 0) = false := bne_eq_false_iff_eq.mpr c115
          clear c115
          obtain rfl := Option.some.inj H
          obtain ⟨Ao116, co116, eo116⟩ := Kd.R_slice HO_5.out
          subst eo116
          go_wp2_with (first | ((with_reducible refine gate_callee (f := 29) rfl ?_); refine goesL_ (some 104) rfl rfl Try.func29 (by kernel_rfl) rfl #[.slice A0 l0.length c0] rfl (by (try simp only [List.map_toArray, List.map_cons, List.map_nil]); first | done | rfl | (simp only [List.length_drop, List.length_take]; rfl)) ?_; (with_reducible refine (spec_DrawTurnedAway.calls k2 _ _ l0 t435 t436 t437 _ ?side1 ?side2 A76.out).mono ?_); (case side1 => repeat (first | exact (Kd.C_below HR0.out HB.out) | (with_reducible refine Kd.C_alloc ?_ _) | (with_reducible refine Kd.C_drewN ?_ _) | (with_reducible refine Kd.C_drew ?_))); (case side2 => exact HC0.out); rintro e w117 ⟨v438, v440, v442, rfl, ho0, ho1, ho2, hb⟩; refine ⟨_, rfl, ?_⟩; have n0_ := Aside0.mk (Kd.R_elder' (by (with_reducible repeat (first | apply Kd.R_alloc | apply Kd.R_drewN | apply Kd.R_drew)); exact HO_3.out) (Kd.R_base ho0) hb); have n1_ := Aside0.mk (Kd.R_mono (Kd.R_told (Kd.R_told (Kd.R_old (by (with_reducible repeat (first | apply Kd.R_alloc | apply Kd.R_drewN | apply Kd.R_drew)); exact HO_4.out) hb) (Kd.R_base ho1)) (Kd.R_base ho2)) (fun _ h_ => h_.1)); have n2_ := Aside0.mk (Kd.R_mono (Kd.R_told (Kd.R_told (Kd.R_old (by (with_reducible repeat (first | apply Kd.R_alloc | apply Kd.R_drewN | apply Kd.R_drew)); exact HO_5.out) hb) (Kd.R_base ho1)) (Kd.R_base ho2)) (fun _ h_ => h_.1)); have n3_ := Aside0.mk (Kd.R_lower (Kd.R_new' ho0 (Kd.R_lt (by (with_reducible repeat (first | apply Kd.R_alloc | apply Kd.R_drewN | apply Kd.R_drew)); exact HO_3.out))) (below_size (by repeat (first | (with_reducible first | exact HB.out | apply below_alloc | apply pw_below_drewN | apply below_drew1) | exact HB.out)))); have n4_ := Aside0.mk (Kd.R_lower (Kd.R_new' (Kd.R_new' ho1 (Kd.R_lt (by (with_reducible repeat (first | apply Kd.R_alloc | apply Kd.R_drewN | apply Kd.R_drew)); exact HO_4.out))) (Kd.R_lt (by (with_reducible repeat (first | apply Kd.R_alloc | apply Kd.R_drewN | apply Kd.R_drew)); exact HO_5.out))) (below_size (by repeat (first | (with_reducible first | exact HB.out | apply below_alloc | apply pw_below_drewN | apply below_drew1) | exact HB.out)))); have n5_ := Aside0.mk (Kd.R_lower (Kd.R_new' (Kd.R_new' ho2 (Kd.R_lt (by (with_reducible repeat (first | apply Kd.R_alloc | apply Kd.R_drewN | apply Kd.R_drew)); exact HO_4.out))) (Kd.R_lt (by (with_reducible repeat (first | apply Kd.R_alloc | apply Kd.R_drewN | apply Kd.R_drew)); exact HO_5.out))) (below_size (by repeat (first | (with_reducible first | exact HB.out | apply below_alloc | apply pw_below_drewN | apply below_drew1) | exact HB.out)))); have n6_ := Aside0.mk (below_step (by repeat (first | (with_reducible first | exact HB.out | apply below_alloc | apply pw_below_drewN | apply below_drew1) | exact HB.out)) hb); clear HO_3; clear HO_4; clear HO_5; clear HB; have HO_3 := n0_; have HO_4 := n1_; have HO_5 := n2_; have HO439 := n3_; have HO441 := n4_; have HO443 := n5_; have HB := n6_; clear n0_ n1_ n2_ n3_ n4_ n5_ n6_; (try clear hb); (try clear hb2); (try clear hk); (try clear hi); (try clear ho0); (try clear ho1); (try clear ho2); obtain ⟨Ao118, co118, eo118⟩ := Kd.R_slice HO439.out; subst eo118; obtain ⟨Ao119, co119, eo119⟩ := Kd.R_slice HO441.out; subst eo119; obtain ⟨Ao120, co120, eo120⟩ := Kd.R_slice HO443.out; subst eo120) | ((with_reducible refine gate_callee (f := 16) rfl ?_); refine goesL_ (some 111) rfl rfl Try.func16 (by kernel_rfl) rfl #[.slice Ao118 t435.length co118, .slice Ao119 t436.length co119, .slice Ao120 t437.length co120] rfl (by (try simp only [List.map_toArray, List.map_cons, List.map_nil]); first | done | rfl | (simp only [List.length_drop, List.length_take]; rfl)) ?_; (with_reducible refine (impl_TurnedAway.calls k2 _ _ t435 _ _ t436 _ _ t437 t444 _ ?side1 ?side2 ?side3 ?side4 ?side5 ?side6 A77.out).mono ?_); (case side1 => repeat (first | exact (Kd.R_reads' HO439.out).2.2 | (with_reducible refine Kd.C_alloc ?_ _) | (with_reducible refine Kd.C_drewN ?_ _) | (with_reducible refine Kd.C_drew ?_))); (case side2 => exact (Kd.R_reads' HO439.out).2.1); (case side3 => repeat (first | exact (Kd.R_reads' HO441.out).2.2 | (with_reducible refine Kd.C_alloc ?_ _) | (with_reducible refine Kd.C_drewN ?_ _) | (with_reducible refine Kd.C_drew ?_))); (case side4 => exact (Kd.R_reads' HO441.out).2.1); (case side5 => repeat (first | exact (Kd.R_reads' HO443.out).2.2 | (with_reducible refine Kd.C_alloc ?_ _) | (with_reducible refine Kd.C_drewN ?_ _) | (with_reducible refine Kd.C_drew ?_))); (case side6 => exact (Kd.R_reads' HO443.out).2.1); rintro e w121 ⟨rfl, hb⟩; refine ⟨_, rfl, ?_⟩; have n0_ := Aside0.mk (Kd.R_below (by (with_reducible repeat (first | apply Kd.R_alloc | apply Kd.R_drewN | apply Kd.R_drew)); exact HO_3.out) hb); have n1_ := Aside0.mk (Kd.R_below (by (with_reducible repeat (first | apply Kd.R_alloc | apply Kd.R_drewN | apply Kd.R_drew)); exact HO_4.out) hb); have n2_ := Aside0.mk (Kd.R_below (by (with_reducible repeat (first | apply Kd.R_alloc | apply Kd.R_drewN | apply Kd.R_drew)); exact HO_5.out) hb); have n3_ := Aside0.mk (Kd.R_below (by (with_reducible repeat (first | apply Kd.R_alloc | apply Kd.R_drewN | apply Kd.R_drew)); exact HO439.out) hb); have n4_ := Aside0.mk (Kd.R_below (by (with_reducible repeat (first | apply Kd.R_alloc | apply Kd.R_drewN | apply Kd.R_drew)); exact HO441.out) hb); have n5_ := Aside0.mk (Kd.R_below (by (with_reducible repeat (first | apply Kd.R_alloc | apply Kd.R_drewN | apply Kd.R_drew)); exact HO443.out) hb); have n6_ := Aside0.mk (below_step (by repeat (first | (with_reducible first | exact HB.out | apply below_alloc | apply pw_below_drewN | apply below_drew1) | exact HB.out)) hb); clear HO_3; clear HO_4; clear HO_5; clear HO439; clear HO441; clear HO443; clear HB; have HO_3 := n0_; have HO_4 := n1_; have HO_5 := n2_; have HO439 := n3_; have HO441 := n4_; have HO443 := n5_; have HB := n6_; clear n0_ n1_ n2_ n3_ n4_ n5_ n6_; (try clear hb); (try clear hb2); (try clear hk); (try clear hi)) | ((with_reducible refine gate_callee (f := 20) rfl ?_); refine goesL_ (some 113) rfl rfl Try.func20 (by kernel_rfl) rfl #[.slice Ao15 t397.length co15] rfl (by (try simp only [List.map_toArray, List.map_cons, List.map_nil]); first | done | rfl | (simp only [List.length_drop, List.length_take]; rfl)) ?_; (with_reducible refine (impl_LargestRoom.calls k2 _ _ t397 t445 _ ?side1 ?side2 A78.out).mono ?_); (case side1 => repeat (first | exact (Kd.R_reads' HO_3.out).2.2 | (with_reducible refine Kd.C_alloc ?_ _) | (with_reducible refine Kd.C_drewN ?_ _) | (with_reducible refine Kd.C_drew ?_))); (case side2 => exact (Kd.R_reads' HO_3.out).2.1); rintro e w122 ⟨rfl, hb⟩; refine ⟨_, rfl, ?_⟩; have n0_ := Aside0.mk (Kd.R_below (by (with_reducible repeat (first | apply Kd.R_alloc | apply Kd.R_drewN | apply Kd.R_drew)); exact HO_3.out) hb); have n1_ := Aside0.mk (Kd.R_below (by (with_reducible repeat (first | apply Kd.R_alloc | apply Kd.R_drewN | apply Kd.R_drew)); exact HO_4.out) hb); have n2_ := Aside0.mk (Kd.R_below (by (with_reducible repeat (first | apply Kd.R_alloc | apply Kd.R_drewN | apply Kd.R_drew)); exact HO_5.out) hb); have n3_ := Aside0.mk (Kd.R_below (by (with_reducible repeat (first | apply Kd.R_alloc | apply Kd.R_drewN | apply Kd.R_drew)); exact HO439.out) hb); have n4_ := Aside0.mk (Kd.R_below (by (with_reducible repeat (first | apply Kd.R_alloc | apply Kd.R_drewN | apply Kd.R_drew)); exact HO441.out) hb); have n5_ := Aside0.mk (Kd.R_below (by (with_reducible repeat (first | apply Kd.R_alloc | apply Kd.R_drewN | apply Kd.R_drew)); exact HO443.out) hb); have n6_ := Aside0.mk (below_step (by repeat (first | (with_reducible first | exact HB.out | apply below_alloc | apply pw_below_drewN | apply below_drew1) | exact HB.out)) hb); clear HO_3; clear HO_4; clear HO_5; clear HO439; clear HO441; clear HO443; clear HB; have HO_3 := n0_; have HO_4 := n1_; have HO_5 := n2_; have HO439 := n3_; have HO441 := n4_; have HO443 := n5_; have HB := n6_; clear n0_ n1_ n2_ n3_ n4_ n5_ n6_; (try clear hb); (try clear hb2); (try clear hk); (try clear hi)) | (go_at_call 30; (with_reducible refine (impl_SeatsIn.calls k2 _ _ t397 t446 _ ?side1 ?side2 A80.out).mono ?_); (case side1 => repeat (first | exact (Kd.R_reads' HO_3.out).2.2 | (with_reducible refine Kd.C_alloc ?_ _) | (with_reducible refine Kd.C_drewN ?_ _) | (with_reducible refine Kd.C_drew ?_))); (case side2 => exact (Kd.R_reads' HO_3.out).2.1); rintro e w123 ⟨rfl, hb⟩; have n0_ := Aside0.mk (Kd.R_below (by (with_reducible repeat (first | apply Kd.R_alloc | apply Kd.R_drewN | apply Kd.R_drew)); exact HO_3.out) hb); have n1_ := Aside0.mk (Kd.R_below (by (with_reducible repeat (first | apply Kd.R_alloc | apply Kd.R_drewN | apply Kd.R_drew)); exact HO_4.out) hb); have n2_ := Aside0.mk (Kd.R_below (by (with_reducible repeat (first | apply Kd.R_alloc | apply Kd.R_drewN | apply Kd.R_drew)); exact HO_5.out) hb); have n3_ := Aside0.mk (Kd.R_below (by (with_reducible repeat (first | apply Kd.R_alloc | apply Kd.R_drewN | apply Kd.R_drew)); exact HO439.out) hb); have n4_ := Aside0.mk (Kd.R_below (by (with_reducible repeat (first | apply Kd.R_alloc | apply Kd.R_drewN | apply Kd.R_drew)); exact HO441.out) hb); have n5_ := Aside0.mk (Kd.R_below (by (with_reducible repeat (first | apply Kd.R_alloc | apply Kd.R_drewN | apply Kd.R_drew)); exact HO443.out) hb); have n6_ := Aside0.mk (below_step (by repeat (first | (with_reducible first | exact HB.out | apply below_alloc | apply pw_below_drewN | apply below_drew1) | exact HB.out)) hb); clear HO_3; clear HO_4; clear HO_5; clear HO439; clear HO441; clear HO443; clear HB; have HO_3 := n0_; have HO_4 := n1_; have HO_5 := n2_; have HO439 := n3_; have HO441 := n4_; have HO443 := n5_; have HB := n6_; clear n0_ n1_ n2_ n3_ n4_ n5_ n6_; (try clear hb); (try clear hb2); (try clear hk); (try clear hi)))
          all_goals (go_ret; exact ⟨by first | rfl | (simp [errW_none, errW_some] <;> rfl) | (simp [*, errW_none, errW_some] <;> rfl), by repeat (first | (with_reducible first | exact HB.out | apply below_alloc | apply pw_below_drewN | apply below_drew1) | exact HB.out)⟩)
         rw [if_pos c82] at H
         have c82b0 : decide (0 < (t397.length : Int)) = true := decide_eq_true c82
         have c82b1 : decide (0 < t397.length) = true := decide_eq_true (by omega)
         clear c82
         replace H := Option.bind_eq_some_iff.mp H
         obtain ⟨t447, A830, H⟩ := H
         replace H : (if ((t445 != 0) == t447) = true then (if (t403.length : Int) = 0 then (some true) else ((laws_contains.f k2 t403 t445).bind fun t448 => (some t448))) else (some false)) = some r := H
         have A83 := Aside0.mk A830
         clear A830
         by_cases c84 : ((t445 != 0) == t447) = true
         rotate_left
         ·
          rw [if_neg c84] at H
          have c84b0 : ((t445 != 0) == t447) = false := by simpa using c84
          (try (have c84b1 : decide ((t445 != 0) = t447) = false := by simpa using c84))
          (try (have c84b2 : ((t445 != 0) == t447) = false := by simpa using c84))
          (try (have c84b3 : ¬ ((t445 != 0) = t447) := by simpa using c84))
          clear c84
          obtain rfl := Option.some.inj H
          obtain ⟨Ao105, co105, eo105⟩ := Kd.R_slice HO_5.out
          subst eo105
          go_wp2_with (first | ((with_reducible refine gate_callee (f := 29) rfl ?_); refine goesL_ (some 104) rfl rfl Try.func29 (by kernel_rfl) rfl #[.slice A0 l0.length c0] rfl (by (try simp only [List.map_toArray, List.map_cons, List.map_nil]); first | done | rfl | (simp only [List.length_drop, List.length_take]; rfl)) ?_; (with_reducible refine (spec_DrawTurnedAway.calls k2 _ _ l0 t435 t436 t437 _ ?side1 ?side2 A76.out).mono ?_); (case side1 => repeat (first | exact (Kd.C_below HR0.out HB.out) | (with_reducible refine Kd.C_alloc ?_ _) | (with_reducible refine Kd.C_drewN ?_ _) | (with_reducible refine Kd.C_drew ?_))); (case side2 => exact HC0.out); rintro e w106 ⟨v438, v440, v442, rfl, ho0, ho1, ho2, hb⟩; refine ⟨_, rfl, ?_⟩; have n0_ := Aside0.mk (Kd.R_elder' (by (with_reducible repeat (first | apply Kd.R_alloc | apply Kd.R_drewN | apply Kd.R_drew)); exact HO_3.out) (Kd.R_base ho0) hb); have n1_ := Aside0.mk (Kd.R_mono (Kd.R_told (Kd.R_told (Kd.R_old (by (with_reducible repeat (first | apply Kd.R_alloc | apply Kd.R_drewN | apply Kd.R_drew)); exact HO_4.out) hb) (Kd.R_base ho1)) (Kd.R_base ho2)) (fun _ h_ => h_.1)); have n2_ := Aside0.mk (Kd.R_mono (Kd.R_told (Kd.R_told (Kd.R_old (by (with_reducible repeat (first | apply Kd.R_alloc | apply Kd.R_drewN | apply Kd.R_drew)); exact HO_5.out) hb) (Kd.R_base ho1)) (Kd.R_base ho2)) (fun _ h_ => h_.1)); have n3_ := Aside0.mk (Kd.R_lower (Kd.R_new' ho0 (Kd.R_lt (by (with_reducible repeat (first | apply Kd.R_alloc | apply Kd.R_drewN | apply Kd.R_drew)); exact HO_3.out))) (below_size (by repeat (first | (with_reducible first | exact HB.out | apply below_alloc | apply pw_below_drewN | apply below_drew1) | exact HB.out)))); have n4_ := Aside0.mk (Kd.R_lower (Kd.R_new' (Kd.R_new' ho1 (Kd.R_lt (by (with_reducible repeat (first | apply Kd.R_alloc | apply Kd.R_drewN | apply Kd.R_drew)); exact HO_4.out))) (Kd.R_lt (by (with_reducible repeat (first | apply Kd.R_alloc | apply Kd.R_drewN | apply Kd.R_drew)); exact HO_5.out))) (below_size (by repeat (first | (with_reducible first | exact HB.out | apply below_alloc | apply pw_below_drewN | apply below_drew1) | exact HB.out)))); have n5_ := Aside0.mk (Kd.R_lower (Kd.R_new' (Kd.R_new' ho2 (Kd.R_lt (by (with_reducible repeat (first | apply Kd.R_alloc | apply Kd.R_drewN | apply Kd.R_drew)); exact HO_4.out))) (Kd.R_lt (by (with_reducible repeat (first | apply Kd.R_alloc | apply Kd.R_drewN | apply Kd.R_drew)); exact HO_5.out))) (below_size (by repeat (first | (with_reducible first | exact HB.out | apply below_alloc | apply pw_below_drewN | apply below_drew1) | exact HB.out)))); have n6_ := Aside0.mk (below_step (by repeat (first | (with_reducible first | exact HB.out | apply below_alloc | apply pw_below_drewN | apply below_drew1) | exact HB.out)) hb); clear HO_3; clear HO_4; clear HO_5; clear HB; have HO_3 := n0_; have HO_4 := n1_; have HO_5 := n2_; have HO439 := n3_; have HO441 := n4_; have HO443 := n5_; have HB := n6_; clear n0_ n1_ n2_ n3_ n4_ n5_ n6_; (try clear hb); (try clear hb2); (try clear hk); (try clear hi); (try clear ho0); (try clear ho1); (try clear ho2); obtain ⟨Ao107, co107, eo107⟩ := Kd.R_slice HO439.out; subst eo107; obtain ⟨Ao108, co108, eo108⟩ := Kd.R_slice HO441.out; subst eo108; obtain ⟨Ao109, co109, eo109⟩ := Kd.R_slice HO443.out; subst eo109) | ((with_reducible refine gate_callee (f := 16) rfl ?_); refine goesL_ (some 111) rfl rfl Try.func16 (by kernel_rfl) rfl #[.slice Ao107 t435.length co107, .slice Ao108 t436.length co108, .slice Ao109 t437.length co109] rfl (by (try simp only [List.map_toArray, List.map_cons, List.map_nil]); first | done | rfl | (simp only [List.length_drop, List.length_take]; rfl)) ?_; (with_reducible refine (impl_TurnedAway.calls k2 _ _ t435 _ _ t436 _ _ t437 t444 _ ?side1 ?side2 ?side3 ?side4 ?side5 ?side6 A77.out).mono ?_); (case side1 => repeat (first | exact (Kd.R_reads' HO439.out).2.2 | (with_reducible refine Kd.C_alloc ?_ _) | (with_reducible refine Kd.C_drewN ?_ _) | (with_reducible refine Kd.C_drew ?_))); (case side2 => exact (Kd.R_reads' HO439.out).2.1); (case side3 => repeat (first | exact (Kd.R_reads' HO441.out).2.2 | (with_reducible refine Kd.C_alloc ?_ _) | (with_reducible refine Kd.C_drewN ?_ _) | (with_reducible refine Kd.C_drew ?_))); (case side4 => exact (Kd.R_reads' HO441.out).2.1); (case side5 => repeat (first | exact (Kd.R_reads' HO443.out).2.2 | (with_reducible refine Kd.C_alloc ?_ _) | (with_reducible refine Kd.C_drewN ?_ _) | (with_reducible refine Kd.C_drew ?_))); (case side6 => exact (Kd.R_reads' HO443.out).2.1); rintro e w110 ⟨rfl, hb⟩; refine ⟨_, rfl, ?_⟩; have n0_ := Aside0.mk (Kd.R_below (by (with_reducible repeat (first | apply Kd.R_alloc | apply Kd.R_drewN | apply Kd.R_drew)); exact HO_3.out) hb); have n1_ := Aside0.mk (Kd.R_below (by (with_reducible repeat (first | apply Kd.R_alloc | apply Kd.R_drewN | apply Kd.R_drew)); exact HO_4.out) hb); have n2_ := Aside0.mk (Kd.R_below (by (with_reducible repeat (first | apply Kd.R_alloc | apply Kd.R_drewN | apply Kd.R_drew)); exact HO_5.out) hb); have n3_ := Aside0.mk (Kd.R_below (by (with_reducible repeat (first | apply Kd.R_alloc | apply Kd.R_drewN | apply Kd.R_drew)); exact HO439.out) hb); have n4_ := Aside0.mk (Kd.R_below (by (with_reducible repeat (first | apply Kd.R_alloc | apply Kd.R_drewN | apply Kd.R_drew)); exact HO441.out) hb); have n5_ := Aside0.mk (Kd.R_below (by (with_reducible repeat (first | apply Kd.R_alloc | apply Kd.R_drewN | apply Kd.R_drew)); exact HO443.out) hb); have n6_ := Aside0.mk (below_step (by repeat (first | (with_reducible first | exact HB.out | apply below_alloc | apply pw_below_drewN | apply below_drew1) | exact HB.out)) hb); clear HO_3; clear HO_4; clear HO_5; clear HO439; clear HO441; clear HO443; clear HB; have HO_3 := n0_; have HO_4 := n1_; have HO_5 := n2_; have HO439 := n3_; have HO441 := n4_; have HO443 := n5_; have HB := n6_; clear n0_ n1_ n2_ n3_ n4_ n5_ n6_; (try clear hb); (try clear hb2); (try clear hk); (try clear hi)) | ((with_reducible refine gate_callee (f := 20) rfl ?_); refine goesL_ (some 113) rfl rfl Try.func20 (by kernel_rfl) rfl #[.slice Ao15 t397.length co15] rfl (by (try simp only [List.map_toArray, List.map_cons, List.map_nil]); first | done | rfl | (simp only [List.length_drop, List.length_take]; rfl)) ?_; (with_reducible refine (impl_LargestRoom.calls k2 _ _ t397 t445 _ ?side1 ?side2 A78.out).mono ?_); (case side1 => repeat (first | exact (Kd.R_reads' HO_3.out).2.2 | (with_reducible refine Kd.C_alloc ?_ _) | (with_reducible refine Kd.C_drewN ?_ _) | (with_reducible refine Kd.C_drew ?_))); (case side2 => exact (Kd.R_reads' HO_3.out).2.1); rintro e w111 ⟨rfl, hb⟩; refine ⟨_, rfl, ?_⟩; have n0_ := Aside0.mk (Kd.R_below (by (with_reducible repeat (first | apply Kd.R_alloc | apply Kd.R_drewN | apply Kd.R_drew)); exact HO_3.out) hb); have n1_ := Aside0.mk (Kd.R_below (by (with_reducible repeat (first | apply Kd.R_alloc | apply Kd.R_drewN | apply Kd.R_drew)); exact HO_4.out) hb); have n2_ := Aside0.mk (Kd.R_below (by (with_reducible repeat (first | apply Kd.R_alloc | apply Kd.R_drewN | apply Kd.R_drew)); exact HO_5.out) hb); have n3_ := Aside0.mk (Kd.R_below (by (with_reducible repeat (first | apply Kd.R_alloc | apply Kd.R_drewN | apply Kd.R_drew)); exact HO439.out) hb); have n4_ := Aside0.mk (Kd.R_below (by (with_reducible repeat (first | apply Kd.R_alloc | apply Kd.R_drewN | apply Kd.R_drew)); exact HO441.out) hb); have n5_ := Aside0.mk (Kd.R_below (by (with_reducible repeat (first | apply Kd.R_alloc | apply Kd.R_drewN | apply Kd.R_drew)); exact HO443.out) hb); have n6_ := Aside0.mk (below_step (by repeat (first | (with_reducible first | exact HB.out | apply below_alloc | apply pw_below_drewN | apply below_drew1) | exact HB.out)) hb); clear HO_3; clear HO_4; clear HO_5; clear HO439; clear HO441; clear HO443; clear HB; have HO_3 := n0_; have HO_4 := n1_; have HO_5 := n2_; have HO439 := n3_; have HO441 := n4_; have HO443 := n5_; have HB := n6_; clear n0_ n1_ n2_ n3_ n4_ n5_ n6_; (try clear hb); (try clear hb2); (try clear hk); (try clear hi)) | (go_at_call 30; (with_reducible refine (impl_SeatsIn.calls k2 _ _ t397 t446 _ ?side1 ?side2 A80.out).mono ?_); (case side1 => repeat (first | exact (Kd.R_reads' HO_3.out).2.2 | (with_reducible refine Kd.C_alloc ?_ _) | (with_reducible refine Kd.C_drewN ?_ _) | (with_reducible refine Kd.C_drew ?_))); (case side2 => exact (Kd.R_reads' HO_3.out).2.1); rintro e w112 ⟨rfl, hb⟩; have n0_ := Aside0.mk (Kd.R_below (by (with_reducible repeat (first | apply Kd.R_alloc | apply Kd.R_drewN | apply Kd.R_drew)); exact HO_3.out) hb); have n1_ := Aside0.mk (Kd.R_below (by (with_reducible repeat (first | apply Kd.R_alloc | apply Kd.R_drewN | apply Kd.R_drew)); exact HO_4.out) hb); have n2_ := Aside0.mk (Kd.R_below (by (with_reducible repeat (first | apply Kd.R_alloc | apply Kd.R_drewN | apply Kd.R_drew)); exact HO_5.out) hb); have n3_ := Aside0.mk (Kd.R_below (by (with_reducible repeat (first | apply Kd.R_alloc | apply Kd.R_drewN | apply Kd.R_drew)); exact HO439.out) hb); have n4_ := Aside0.mk (Kd.R_below (by (with_reducible repeat (first | apply Kd.R_alloc | apply Kd.R_drewN | apply Kd.R_drew)); exact HO441.out) hb); have n5_ := Aside0.mk (Kd.R_below (by (with_reducible repeat (first | apply Kd.R_alloc | apply Kd.R_drewN | apply Kd.R_drew)); exact HO443.out) hb); have n6_ := Aside0.mk (below_step (by repeat (first | (with_reducible first | exact HB.out | apply below_alloc | apply pw_below_drewN | apply below_drew1) | exact HB.out)) hb); clear HO_3; clear HO_4; clear HO_5; clear HO439; clear HO441; clear HO443; clear HB; have HO_3 := n0_; have HO_4 := n1_; have HO_5 := n2_; have HO439 := n3_; have HO441 := n4_; have HO443 := n5_; have HB := n6_; clear n0_ n1_ n2_ n3_ n4_ n5_ n6_; (try clear hb); (try clear hb2); (try clear hk); (try clear hi)) | (go_at_call 31; (with_reducible refine (impl_AreRooms.calls k2 _ _ t397 t447 _ ?side1 ?side2 A83.out).mono ?_); (case side1 => repeat (first | exact (Kd.R_reads' HO_3.out).2.2 | (with_reducible refine Kd.C_alloc ?_ _) | (with_reducible refine Kd.C_drewN ?_ _) | (with_reducible refine Kd.C_drew ?_))); (case side2 => exact (Kd.R_reads' HO_3.out).2.1); rintro e w113 ⟨rfl, hb⟩; have n0_ := Aside0.mk (Kd.R_below (by (with_reducible repeat (first | apply Kd.R_alloc | apply Kd.R_drewN | apply Kd.R_drew)); exact HO_3.out) hb); have n1_ := Aside0.mk (Kd.R_below (by (with_reducible repeat (first | apply Kd.R_alloc | apply Kd.R_drewN | apply Kd.R_drew)); exact HO_4.out) hb); have n2_ := Aside0.mk (Kd.R_below (by (with_reducible repeat (first | apply Kd.R_alloc | apply Kd.R_drewN | apply Kd.R_drew)); exact HO_5.out) hb); have n3_ := Aside0.mk (Kd.R_below (by (with_reducible repeat (first | apply Kd.R_alloc | apply Kd.R_drewN | apply Kd.R_drew)); exact HO439.out) hb); have n4_ := Aside0.mk (Kd.R_below (by (with_reducible repeat (first | apply Kd.R_alloc | apply Kd.R_drewN | apply Kd.R_drew)); exact HO441.out) hb); have n5_ := Aside0.mk (Kd.R_below (by (with_reducible repeat (first | apply Kd.R_alloc | apply Kd.R_drewN | apply Kd.R_drew)); exact HO443.out) hb); have n6_ := Aside0.mk (below_step (by repeat (first | (with_reducible first | exact HB.out | apply below_alloc | apply pw_below_drewN | apply below_drew1) | exact HB.out)) hb); clear HO_3; clear HO_4; clear HO_5; clear HO439; clear HO441; clear HO443; clear HB; have HO_3 := n0_; have HO_4 := n1_; have HO_5 := n2_; have HO439 := n3_; have HO441 := n4_; have HO443 := n5_; have HB := n6_; clear n0_ n1_ n2_ n3_ n4_ n5_ n6_; (try clear hb); (try clear hb2); (try clear hk); (try clear hi)))
          all_goals (go_ret; exact ⟨by first | rfl | (simp [errW_none, errW_some] <;> rfl) | (simp [*, errW_none, errW_some] <;> rfl), by repeat (first | (with_reducible first | exact HB.out | apply below_alloc | apply pw_below_drewN | apply below_drew1) | exact HB.out)⟩)
         rw [if_pos c84] at H
         have c84b0 : ((t445 != 0) == t447) = true := c84
         (try (have c84b1 : decide ((t445 != 0) = t447) = true := by simpa using c84))
         (try (have c84b2 : ((t445 != 0) == t447) = true := by simpa using c84))
         clear c84
         by_cases c85 : (t403.length : Int) = 0
         rotate_left
         ·
          rw [if_neg c85] at H
          have c85b0 : ((t403.length : Int) == 0) = false := beq_eq_false_iff_ne.mpr c85
          have c85b1 : ((t403.length : Int) != 0) = true := bne_iff_ne.mpr c85
          have c85b2 : ¬ (t403 = []) := fun h_ => c85 (by rw [h_]; rfl)
          replace H := Option.bind_eq_some_iff.mp H
          obtain ⟨t448, A950, H⟩ := H
          replace H : (some t448) = some r := H
          have A95 := Aside0.mk A950
          clear A950
          obtain rfl := Option.some.inj H
          obtain ⟨Ao96, co96, eo96⟩ := Kd.R_slice HO_5.out
          subst eo96
          go_wp2_with (first | ((with_reducible refine gate_callee (f := 29) rfl ?_); refine goesL_ (some 104) rfl rfl Try.func29 (by kernel_rfl) rfl #[.slice A0 l0.length c0] rfl (by (try simp only [List.map_toArray, List.map_cons, List.map_nil]); first | done | rfl | (simp only [List.length_drop, List.length_take]; rfl)) ?_; (with_reducible refine (spec_DrawTurnedAway.calls k2 _ _ l0 t435 t436 t437 _ ?side1 ?side2 A76.out).mono ?_); (case side1 => repeat (first | exact (Kd.C_below HR0.out HB.out) | (with_reducible refine Kd.C_alloc ?_ _) | (with_reducible refine Kd.C_drewN ?_ _) | (with_reducible refine Kd.C_drew ?_))); (case side2 => exact HC0.out); rintro e w97 ⟨v438, v440, v442, rfl, ho0, ho1, ho2, hb⟩; refine ⟨_, rfl, ?_⟩; have n0_ := Aside0.mk (Kd.R_elder' (by (with_reducible repeat (first | apply Kd.R_alloc | apply Kd.R_drewN | apply Kd.R_drew)); exact HO_3.out) (Kd.R_base ho0) hb); have n1_ := Aside0.mk (Kd.R_mono (Kd.R_told (Kd.R_told (Kd.R_old (by (with_reducible repeat (first | apply Kd.R_alloc | apply Kd.R_drewN | apply Kd.R_drew)); exact HO_4.out) hb) (Kd.R_base ho1)) (Kd.R_base ho2)) (fun _ h_ => h_.1)); have n2_ := Aside0.mk (Kd.R_mono (Kd.R_told (Kd.R_told (Kd.R_old (by (with_reducible repeat (first | apply Kd.R_alloc | apply Kd.R_drewN | apply Kd.R_drew)); exact HO_5.out) hb) (Kd.R_base ho1)) (Kd.R_base ho2)) (fun _ h_ => h_.1)); have n3_ := Aside0.mk (Kd.R_lower (Kd.R_new' ho0 (Kd.R_lt (by (with_reducible repeat (first | apply Kd.R_alloc | apply Kd.R_drewN | apply Kd.R_drew)); exact HO_3.out))) (below_size (by repeat (first | (with_reducible first | exact HB.out | apply below_alloc | apply pw_below_drewN | apply below_drew1) | exact HB.out)))); have n4_ := Aside0.mk (Kd.R_lower (Kd.R_new' (Kd.R_new' ho1 (Kd.R_lt (by (with_reducible repeat (first | apply Kd.R_alloc | apply Kd.R_drewN | apply Kd.R_drew)); exact HO_4.out))) (Kd.R_lt (by (with_reducible repeat (first | apply Kd.R_alloc | apply Kd.R_drewN | apply Kd.R_drew)); exact HO_5.out))) (below_size (by repeat (first | (with_reducible first | exact HB.out | apply below_alloc | apply pw_below_drewN | apply below_drew1) | exact HB.out)))); have n5_ := Aside0.mk (Kd.R_lower (Kd.R_new' (Kd.R_new' ho2 (Kd.R_lt (by (with_reducible repeat (first | apply Kd.R_alloc | apply Kd.R_drewN | apply Kd.R_drew)); exact HO_4.out))) (Kd.R_lt (by (with_reducible repeat (first | apply Kd.R_alloc | apply Kd.R_drewN | apply Kd.R_drew)); exact HO_5.out))) (below_size (by repeat (first | (with_reducible first | exact HB.out | apply below_alloc | apply pw_below_drewN | apply below_drew1) | exact HB.out)))); have n6_ := Aside0.mk (below_step (by repeat (first | (with_reducible first | exact HB.out | apply below_alloc | apply pw_below_drewN | apply below_drew1) | exact HB.out)) hb); clear HO_3; clear HO_4; clear HO_5; clear HB; have HO_3 := n0_; have HO_4 := n1_; have HO_5 := n2_; have HO439 := n3_; have HO441 := n4_; have HO443 := n5_; have HB := n6_; clear n0_ n1_ n2_ n3_ n4_ n5_ n6_; (try clear hb); (try clear hb2); (try clear hk); (try clear hi); (try clear ho0); (try clear ho1); (try clear ho2); obtain ⟨Ao98, co98, eo98⟩ := Kd.R_slice HO439.out; subst eo98; obtain ⟨Ao99, co99, eo99⟩ := Kd.R_slice HO441.out; subst eo99; obtain ⟨Ao100, co100, eo100⟩ := Kd.R_slice HO443.out; subst eo100) | ((with_reducible refine gate_callee (f := 16) rfl ?_); refine goesL_ (some 111) rfl rfl Try.func16 (by kernel_rfl) rfl #[.slice Ao98 t435.length co98, .slice Ao99 t436.length co99, .slice Ao100 t437.length co100] rfl (by (try simp only [List.map_toArray, List.map_cons, List.map_nil]); first | done | rfl | (simp only [List.length_drop, List.length_take]; rfl)) ?_; (with_reducible refine (impl_TurnedAway.calls k2 _ _ t435 _ _ t436 _ _ t437 t444 _ ?side1 ?side2 ?side3 ?side4 ?side5 ?side6 A77.out).mono ?_); (case side1 => repeat (first | exact (Kd.R_reads' HO439.out).2.2 | (with_reducible refine Kd.C_alloc ?_ _) | (with_reducible refine Kd.C_drewN ?_ _) | (with_reducible refine Kd.C_drew ?_))); (case side2 => exact (Kd.R_reads' HO439.out).2.1); (case side3 => repeat (first | exact (Kd.R_reads' HO441.out).2.2 | (with_reducible refine Kd.C_alloc ?_ _) | (with_reducible refine Kd.C_drewN ?_ _) | (with_reducible refine Kd.C_drew ?_))); (case side4 => exact (Kd.R_reads' HO441.out).2.1); (case side5 => repeat (first | exact (Kd.R_reads' HO443.out).2.2 | (with_reducible refine Kd.C_alloc ?_ _) | (with_reducible refine Kd.C_drewN ?_ _) | (with_reducible refine Kd.C_drew ?_))); (case side6 => exact (Kd.R_reads' HO443.out).2.1); rintro e w101 ⟨rfl, hb⟩; refine ⟨_, rfl, ?_⟩; have n0_ := Aside0.mk (Kd.R_below (by (with_reducible repeat (first | apply Kd.R_alloc | apply Kd.R_drewN | apply Kd.R_drew)); exact HO_3.out) hb); have n1_ := Aside0.mk (Kd.R_below (by (with_reducible repeat (first | apply Kd.R_alloc | apply Kd.R_drewN | apply Kd.R_drew)); exact HO_4.out) hb); have n2_ := Aside0.mk (Kd.R_below (by (with_reducible repeat (first | apply Kd.R_alloc | apply Kd.R_drewN | apply Kd.R_drew)); exact HO_5.out) hb); have n3_ := Aside0.mk (Kd.R_below (by (with_reducible repeat (first | apply Kd.R_alloc | apply Kd.R_drewN | apply Kd.R_drew)); exact HO439.out) hb); have n4_ := Aside0.mk (Kd.R_below (by (with_reducible repeat (first | apply Kd.R_alloc | apply Kd.R_drewN | apply Kd.R_drew)); exact HO441.out) hb); have n5_ := Aside0.mk (Kd.R_below (by (with_reducible repeat (first | apply Kd.R_alloc | apply Kd.R_drewN | apply Kd.R_drew)); exact HO443.out) hb); have n6_ := Aside0.mk (below_step (by repeat (first | (with_reducible first | exact HB.out | apply below_alloc | apply pw_below_drewN | apply below_drew1) | exact HB.out)) hb); clear HO_3; clear HO_4; clear HO_5; clear HO439; clear HO441; clear HO443; clear HB; have HO_3 := n0_; have HO_4 := n1_; have HO_5 := n2_; have HO439 := n3_; have HO441 := n4_; have HO443 := n5_; have HB := n6_; clear n0_ n1_ n2_ n3_ n4_ n5_ n6_; (try clear hb); (try clear hb2); (try clear hk); (try clear hi)) | ((with_reducible refine gate_callee (f := 20) rfl ?_); refine goesL_ (some 113) rfl rfl Try.func20 (by kernel_rfl) rfl #[.slice Ao15 t397.length co15] rfl (by (try simp only [List.map_toArray, List.map_cons, List.map_nil]); first | done | rfl | (simp only [List.length_drop, List.length_take]; rfl)) ?_; (with_reducible refine (impl_LargestRoom.calls k2 _ _ t397 t445 _ ?side1 ?side2 A78.out).mono ?_); (case side1 => repeat (first | exact (Kd.R_reads' HO_3.out).2.2 | (with_reducible refine Kd.C_alloc ?_ _) | (with_reducible refine Kd.C_drewN ?_ _) | (with_reducible refine Kd.C_drew ?_))); (case side2 => exact (Kd.R_reads' HO_3.out).2.1); rintro e w102 ⟨rfl, hb⟩; refine ⟨_, rfl, ?_⟩; have n0_ := Aside0.mk (Kd.R_below (by (with_reducible repeat (first | apply Kd.R_alloc | apply Kd.R_drewN | apply Kd.R_drew)); exact HO_3.out) hb); have n1_ := Aside0.mk (Kd.R_below (by (with_reducible repeat (first | apply Kd.R_alloc | apply Kd.R_drewN | apply Kd.R_drew)); exact HO_4.out) hb); have n2_ := Aside0.mk (Kd.R_below (by (with_reducible repeat (first | apply Kd.R_alloc | apply Kd.R_drewN | apply Kd.R_drew)); exact HO_5.out) hb); have n3_ := Aside0.mk (Kd.R_below (by (with_reducible repeat (first | apply Kd.R_alloc | apply Kd.R_drewN | apply Kd.R_drew)); exact HO439.out) hb); have n4_ := Aside0.mk (Kd.R_below (by (with_reducible repeat (first | apply Kd.R_alloc | apply Kd.R_drewN | apply Kd.R_drew)); exact HO441.out) hb); have n5_ := Aside0.mk (Kd.R_below (by (with_reducible repeat (first | apply Kd.R_alloc | apply Kd.R_drewN | apply Kd.R_drew)); exact HO443.out) hb); have n6_ := Aside0.mk (below_step (by repeat (first | (with_reducible first | exact HB.out | apply below_alloc | apply pw_below_drewN | apply below_drew1) | exact HB.out)) hb); clear HO_3; clear HO_4; clear HO_5; clear HO439; clear HO441; clear HO443; clear HB; have HO_3 := n0_; have HO_4 := n1_; have HO_5 := n2_; have HO439 := n3_; have HO441 := n4_; have HO443 := n5_; have HB := n6_; clear n0_ n1_ n2_ n3_ n4_ n5_ n6_; (try clear hb); (try clear hb2); (try clear hk); (try clear hi)) | (go_at_call 30; (with_reducible refine (impl_SeatsIn.calls k2 _ _ t397 t446 _ ?side1 ?side2 A80.out).mono ?_); (case side1 => repeat (first | exact (Kd.R_reads' HO_3.out).2.2 | (with_reducible refine Kd.C_alloc ?_ _) | (with_reducible refine Kd.C_drewN ?_ _) | (with_reducible refine Kd.C_drew ?_))); (case side2 => exact (Kd.R_reads' HO_3.out).2.1); rintro e w103 ⟨rfl, hb⟩; have n0_ := Aside0.mk (Kd.R_below (by (with_reducible repeat (first | apply Kd.R_alloc | apply Kd.R_drewN | apply Kd.R_drew)); exact HO_3.out) hb); have n1_ := Aside0.mk (Kd.R_below (by (with_reducible repeat (first | apply Kd.R_alloc | apply Kd.R_drewN | apply Kd.R_drew)); exact HO_4.out) hb); have n2_ := Aside0.mk (Kd.R_below (by (with_reducible repeat (first | apply Kd.R_alloc | apply Kd.R_drewN | apply Kd.R_drew)); exact HO_5.out) hb); have n3_ := Aside0.mk (Kd.R_below (by (with_reducible repeat (first | apply Kd.R_alloc | apply Kd.R_drewN | apply Kd.R_drew)); exact HO439.out) hb); have n4_ := Aside0.mk (Kd.R_below (by (with_reducible repeat (first | apply Kd.R_alloc | apply Kd.R_drewN | apply Kd.R_drew)); exact HO441.out) hb); have n5_ := Aside0.mk (Kd.R_below (by (with_reducible repeat (first | apply Kd.R_alloc | apply Kd.R_drewN | apply Kd.R_drew)); exact HO443.out) hb); have n6_ := Aside0.mk (below_step (by repeat (first | (with_reducible first | exact HB.out | apply below_alloc | apply pw_below_drewN | apply below_drew1) | exact HB.out)) hb); clear HO_3; clear HO_4; clear HO_5; clear HO439; clear HO441; clear HO443; clear HB; have HO_3 := n0_; have HO_4 := n1_; have HO_5 := n2_; have HO439 := n3_; have HO441 := n4_; have HO443 := n5_; have HB := n6_; clear n0_ n1_ n2_ n3_ n4_ n5_ n6_; (try clear hb); (try clear hb2); (try clear hk); (try clear hi)) | (go_at_call 31; (with_reducible refine (impl_AreRooms.calls k2 _ _ t397 t447 _ ?side1 ?side2 A83.out).mono ?_); (case side1 => repeat (first | exact (Kd.R_reads' HO_3.out).2.2 | (with_reducible refine Kd.C_alloc ?_ _) | (with_reducible refine Kd.C_drewN ?_ _) | (with_reducible refine Kd.C_drew ?_))); (case side2 => exact (Kd.R_reads' HO_3.out).2.1); rintro e w104 ⟨rfl, hb⟩; have n0_ := Aside0.mk (Kd.R_below (by (with_reducible repeat (first | apply Kd.R_alloc | apply Kd.R_drewN | apply Kd.R_drew)); exact HO_3.out) hb); have n1_ := Aside0.mk (Kd.R_below (by (with_reducible repeat (first | apply Kd.R_alloc | apply Kd.R_drewN | apply Kd.R_drew)); exact HO_4.out) hb); have n2_ := Aside0.mk (Kd.R_below (by (with_reducible repeat (first | apply Kd.R_alloc | apply Kd.R_drewN | apply Kd.R_drew)); exact HO_5.out) hb); have n3_ := Aside0.mk (Kd.R_below (by (with_reducible repeat (first | apply Kd.R_alloc | apply Kd.R_drewN | apply Kd.R_drew)); exact HO439.out) hb); have n4_ := Aside0.mk (Kd.R_below (by (with_reducible repeat (first | apply Kd.R_alloc | apply Kd.R_drewN | apply Kd.R_drew)); exact HO441.out) hb); have n5_ := Aside0.mk (Kd.R_below (by (with_reducible repeat (first | apply Kd.R_alloc | apply Kd.R_drewN | apply Kd.R_drew)); exact HO443.out) hb); have n6_ := Aside0.mk (below_step (by repeat (first | (with_reducible first | exact HB.out | apply below_alloc | apply pw_below_drewN | apply below_drew1) | exact HB.out)) hb); clear HO_3; clear HO_4; clear HO_5; clear HO439; clear HO441; clear HO443; clear HB; have HO_3 := n0_; have HO_4 := n1_; have HO_5 := n2_; have HO439 := n3_; have HO441 := n4_; have HO443 := n5_; have HB := n6_; clear n0_ n1_ n2_ n3_ n4_ n5_ n6_; (try clear hb); (try clear hb2); (try clear hk); (try clear hi)) | (go_at_call 28; (with_reducible refine (laws_contains.calls k2 _ _ t403 t445 t448 _ ?side1 ?side2 A95.out).mono ?_); (case side1 => repeat (first | exact (Kd.R_reads' HO_5.out).2.2 | (with_reducible refine Kd.C_alloc ?_ _) | (with_reducible refine Kd.C_drewN ?_ _) | (with_reducible refine Kd.C_drew ?_))); (case side2 => exact (Kd.R_reads' HO_5.out).2.1); rintro e w' ⟨rfl, ⟨nd, rfl⟩⟩))
          all_goals (go_ret; exact ⟨by first | rfl | (simp [errW_none, errW_some] <;> rfl) | (simp [*, errW_none, errW_some] <;> rfl), by repeat (first | (with_reducible first | exact HB.out | apply below_alloc | apply pw_below_drewN | apply below_drew1) | exact HB.out)⟩)
         rw [if_pos c85] at H
         have c85b0 : ((t403.length : Int) == 0) = true := beq_iff_eq.mpr c85
         have c85b1 : ((t403.length : Int) != 0) = false := bne_eq_false_iff_eq.mpr c85
         clear c85
         obtain rfl := Option.some.inj H
         obtain ⟨Ao86, co86, eo86⟩ := Kd.R_slice HO_5.out
         subst eo86
         go_wp2_with (first | ((with_reducible refine gate_callee (f := 29) rfl ?_); refine goesL_ (some 104) rfl rfl Try.func29 (by kernel_rfl) rfl #[.slice A0 l0.length c0] rfl (by (try simp only [List.map_toArray, List.map_cons, List.map_nil]); first | done | rfl | (simp only [List.length_drop, List.length_take]; rfl)) ?_; (with_reducible refine (spec_DrawTurnedAway.calls k2 _ _ l0 t435 t436 t437 _ ?side1 ?side2 A76.out).mono ?_); (case side1 => repeat (first | exact (Kd.C_below HR0.out HB.out) | (with_reducible refine Kd.C_alloc ?_ _) | (with_reducible refine Kd.C_drewN ?_ _) | (with_reducible refine Kd.C_drew ?_))); (case side2 => exact HC0.out); rintro e w87 ⟨v438, v440, v442, rfl, ho0, ho1, ho2, hb⟩; refine ⟨_, rfl, ?_⟩; have n0_ := Aside0.mk (Kd.R_elder' (by (with_reducible repeat (first | apply Kd.R_alloc | apply Kd.R_drewN | apply Kd.R_drew)); exact HO_3.out) (Kd.R_base ho0) hb); have n1_ := Aside0.mk (Kd.R_mono (Kd.R_told (Kd.R_told (Kd.R_old (by (with_reducible repeat (first | apply Kd.R_alloc | apply Kd.R_drewN | apply Kd.R_drew)); exact HO_4.out) hb) (Kd.R_base ho1)) (Kd.R_base ho2)) (fun _ h_ => h_.1)); have n2_ := Aside0.mk (Kd.R_mono (Kd.R_told (Kd.R_told (Kd.R_old (by (with_reducible repeat (first | apply Kd.R_alloc | apply Kd.R_drewN | apply Kd.R_drew)); exact HO_5.out) hb) (Kd.R_base ho1)) (Kd.R_base ho2)) (fun _ h_ => h_.1)); have n3_ := Aside0.mk (Kd.R_lower (Kd.R_new' ho0 (Kd.R_lt (by (with_reducible repeat (first | apply Kd.R_alloc | apply Kd.R_drewN | apply Kd.R_drew)); exact HO_3.out))) (below_size (by repeat (first | (with_reducible first | exact HB.out | apply below_alloc | apply pw_below_drewN | apply below_drew1) | exact HB.out)))); have n4_ := Aside0.mk (Kd.R_lower (Kd.R_new' (Kd.R_new' ho1 (Kd.R_lt (by (with_reducible repeat (first | apply Kd.R_alloc | apply Kd.R_drewN | apply Kd.R_drew)); exact HO_4.out))) (Kd.R_lt (by (with_reducible repeat (first | apply Kd.R_alloc | apply Kd.R_drewN | apply Kd.R_drew)); exact HO_5.out))) (below_size (by repeat (first | (with_reducible first | exact HB.out | apply below_alloc | apply pw_below_drewN | apply below_drew1) | exact HB.out)))); have n5_ := Aside0.mk (Kd.R_lower (Kd.R_new' (Kd.R_new' ho2 (Kd.R_lt (by (with_reducible repeat (first | apply Kd.R_alloc | apply Kd.R_drewN | apply Kd.R_drew)); exact HO_4.out))) (Kd.R_lt (by (with_reducible repeat (first | apply Kd.R_alloc | apply Kd.R_drewN | apply Kd.R_drew)); exact HO_5.out))) (below_size (by repeat (first | (with_reducible first | exact HB.out | apply below_alloc | apply pw_below_drewN | apply below_drew1) | exact HB.out)))); have n6_ := Aside0.mk (below_step (by repeat (first | (with_reducible first | exact HB.out | apply below_alloc | apply pw_below_drewN | apply below_drew1) | exact HB.out)) hb); clear HO_3; clear HO_4; clear HO_5; clear HB; have HO_3 := n0_; have HO_4 := n1_; have HO_5 := n2_; have HO439 := n3_; have HO441 := n4_; have HO443 := n5_; have HB := n6_; clear n0_ n1_ n2_ n3_ n4_ n5_ n6_; (try clear hb); (try clear hb2); (try clear hk); (try clear hi); (try clear ho0); (try clear ho1); (try clear ho2); obtain ⟨Ao88, co88, eo88⟩ := Kd.R_slice HO439.out; subst eo88; obtain ⟨Ao89, co89, eo89⟩ := Kd.R_slice HO441.out; subst eo89; obtain ⟨Ao90, co90, eo90⟩ := Kd.R_slice HO443.out; subst eo90) | ((with_reducible refine gate_callee (f := 16) rfl ?_); refine goesL_ (some 111) rfl rfl Try.func16 (by kernel_rfl) rfl #[.slice Ao88 t435.length co88, .slice Ao89 t436.length co89, .slice Ao90 t437.length co90] rfl (by (try simp only [List.map_toArray, List.map_cons, List.map_nil]); first | done | rfl | (simp only [List.length_drop, List.length_take]; rfl)) ?_; (with_reducible refine (impl_TurnedAway.calls k2 _ _ t435 _ _ t436 _ _ t437 t444 _ ?side1 ?side2 ?side3 ?side4 ?side5 ?side6 A77.out).mono ?_); (case side1 => repeat (first | exact (Kd.R_reads' HO439.out).2.2 | (with_reducible refine Kd.C_alloc ?_ _) | (with_reducible refine Kd.C_drewN ?_ _) | (with_reducible refine Kd.C_drew ?_))); (case side2 => exact (Kd.R_reads' HO439.out).2.1); (case side3 => repeat (first | exact (Kd.R_reads' HO441.out).2.2 | (with_reducible refine Kd.C_alloc ?_ _) | (with_reducible refine Kd.C_drewN ?_ _) | (with_reducible refine Kd.C_drew ?_))); (case side4 => exact (Kd.R_reads' HO441.out).2.1); (case side5 => repeat (first | exact (Kd.R_reads' HO443.out).2.2 | (with_reducible refine Kd.C_alloc ?_ _) | (with_reducible refine Kd.C_drewN ?_ _) | (with_reducible refine Kd.C_drew ?_))); (case side6 => exact (Kd.R_reads' HO443.out).2.1); rintro e w91 ⟨rfl, hb⟩; refine ⟨_, rfl, ?_⟩; have n0_ := Aside0.mk (Kd.R_below (by (with_reducible repeat (first | apply Kd.R_alloc | apply Kd.R_drewN | apply Kd.R_drew)); exact HO_3.out) hb); have n1_ := Aside0.mk (Kd.R_below (by (with_reducible repeat (first | apply Kd.R_alloc | apply Kd.R_drewN | apply Kd.R_drew)); exact HO_4.out) hb); have n2_ := Aside0.mk (Kd.R_below (by (with_reducible repeat (first | apply Kd.R_alloc | apply Kd.R_drewN | apply Kd.R_drew)); exact HO_5.out) hb); have n3_ := Aside0.mk (Kd.R_below (by (with_reducible repeat (first | apply Kd.R_alloc | apply Kd.R_drewN | apply Kd.R_drew)); exact HO439.out) hb); have n4_ := Aside0.mk (Kd.R_below (by (with_reducible repeat (first | apply Kd.R_alloc | apply Kd.R_drewN | apply Kd.R_drew)); exact HO441.out) hb); have n5_ := Aside0.mk (Kd.R_below (by (with_reducible repeat (first | apply Kd.R_alloc | apply Kd.R_drewN | apply Kd.R_drew)); exact HO443.out) hb); have n6_ := Aside0.mk (below_step (by repeat (first | (with_reducible first | exact HB.out | apply below_alloc | apply pw_below_drewN | apply below_drew1) | exact HB.out)) hb); clear HO_3; clear HO_4; clear HO_5; clear HO439; clear HO441; clear HO443; clear HB; have HO_3 := n0_; have HO_4 := n1_; have HO_5 := n2_; have HO439 := n3_; have HO441 := n4_; have HO443 := n5_; have HB := n6_; clear n0_ n1_ n2_ n3_ n4_ n5_ n6_; (try clear hb); (try clear hb2); (try clear hk); (try clear hi)) | ((with_reducible refine gate_callee (f := 20) rfl ?_); refine goesL_ (some 113) rfl rfl Try.func20 (by kernel_rfl) rfl #[.slice Ao15 t397.length co15] rfl (by (try simp only [List.map_toArray, List.map_cons, List.map_nil]); first | done | rfl | (simp only [List.length_drop, List.length_take]; rfl)) ?_; (with_reducible refine (impl_LargestRoom.calls k2 _ _ t397 t445 _ ?side1 ?side2 A78.out).mono ?_); (case side1 => repeat (first | exact (Kd.R_reads' HO_3.out).2.2 | (with_reducible refine Kd.C_alloc ?_ _) | (with_reducible refine Kd.C_drewN ?_ _) | (with_reducible refine Kd.C_drew ?_))); (case side2 => exact (Kd.R_reads' HO_3.out).2.1); rintro e w92 ⟨rfl, hb⟩; refine ⟨_, rfl, ?_⟩; have n0_ := Aside0.mk (Kd.R_below (by (with_reducible repeat (first | apply Kd.R_alloc | apply Kd.R_drewN | apply Kd.R_drew)); exact HO_3.out) hb); have n1_ := Aside0.mk (Kd.R_below (by (with_reducible repeat (first | apply Kd.R_alloc | apply Kd.R_drewN | apply Kd.R_drew)); exact HO_4.out) hb); have n2_ := Aside0.mk (Kd.R_below (by (with_reducible repeat (first | apply Kd.R_alloc | apply Kd.R_drewN | apply Kd.R_drew)); exact HO_5.out) hb); have n3_ := Aside0.mk (Kd.R_below (by (with_reducible repeat (first | apply Kd.R_alloc | apply Kd.R_drewN | apply Kd.R_drew)); exact HO439.out) hb); have n4_ := Aside0.mk (Kd.R_below (by (with_reducible repeat (first | apply Kd.R_alloc | apply Kd.R_drewN | apply Kd.R_drew)); exact HO441.out) hb); have n5_ := Aside0.mk (Kd.R_below (by (with_reducible repeat (first | apply Kd.R_alloc | apply Kd.R_drewN | apply Kd.R_drew)); exact HO443.out) hb); have n6_ := Aside0.mk (below_step (by repeat (first | (with_reducible first | exact HB.out | apply below_alloc | apply pw_below_drewN | apply below_drew1) | exact HB.out)) hb); clear HO_3; clear HO_4; clear HO_5; clear HO439; clear HO441; clear HO443; clear HB; have HO_3 := n0_; have HO_4 := n1_; have HO_5 := n2_; have HO439 := n3_; have HO441 := n4_; have HO443 := n5_; have HB := n6_; clear n0_ n1_ n2_ n3_ n4_ n5_ n6_; (try clear hb); (try clear hb2); (try clear hk); (try clear hi)) | (go_at_call 30; (with_reducible refine (impl_SeatsIn.calls k2 _ _ t397 t446 _ ?side1 ?side2 A80.out).mono ?_); (case side1 => repeat (first | exact (Kd.R_reads' HO_3.out).2.2 | (with_reducible refine Kd.C_alloc ?_ _) | (with_reducible refine Kd.C_drewN ?_ _) | (with_reducible refine Kd.C_drew ?_))); (case side2 => exact (Kd.R_reads' HO_3.out).2.1); rintro e w93 ⟨rfl, hb⟩; have n0_ := Aside0.mk (Kd.R_below (by (with_reducible repeat (first | apply Kd.R_alloc | apply Kd.R_drewN | apply Kd.R_drew)); exact HO_3.out) hb); have n1_ := Aside0.mk (Kd.R_below (by (with_reducible repeat (first | apply Kd.R_alloc | apply Kd.R_drewN | apply Kd.R_drew)); exact HO_4.out) hb); have n2_ := Aside0.mk (Kd.R_below (by (with_reducible repeat (first | apply Kd.R_alloc | apply Kd.R_drewN | apply Kd.R_drew)); exact HO_5.out) hb); have n3_ := Aside0.mk (Kd.R_below (by (with_reducible repeat (first | apply Kd.R_alloc | apply Kd.R_drewN | apply Kd.R_drew)); exact HO439.out) hb); have n4_ := Aside0.mk (Kd.R_below (by (with_reducible repeat (first | apply Kd.R_alloc | apply Kd.R_drewN | apply Kd.R_drew)); exact HO441.out) hb); have n5_ := Aside0.mk (Kd.R_below (by (with_reducible repeat (first | apply Kd.R_alloc | apply Kd.R_drewN | apply Kd.R_drew)); exact HO443.out) hb); have n6_ := Aside0.mk (below_step (by repeat (first | (with_reducible first | exact HB.out | apply below_alloc | apply pw_below_drewN | apply below_drew1) | exact HB.out)) hb); clear HO_3; clear HO_4; clear HO_5; clear HO439; clear HO441; clear HO443; clear HB; have HO_3 := n0_; have HO_4 := n1_; have HO_5 := n2_; have HO439 := n3_; have HO441 := n4_; have HO443 := n5_; have HB := n6_; clear n0_ n1_ n2_ n3_ n4_ n5_ n6_; (try clear hb); (try clear hb2); (try clear hk); (try clear hi)) | (go_at_call 31; (with_reducible refine (impl_AreRooms.calls k2 _ _ t397 t447 _ ?side1 ?side2 A83.out).mono ?_); (case side1 => repeat (first | exact (Kd.R_reads' HO_3.out).2.2 | (with_reducible refine Kd.C_alloc ?_ _) | (with_reducible refine Kd.C_drewN ?_ _) | (with_reducible refine Kd.C_drew ?_))); (case side2 => exact (Kd.R_reads' HO_3.out).2.1); rintro e w94 ⟨rfl, hb⟩; have n0_ := Aside0.mk (Kd.R_below (by (with_reducible repeat (first | apply Kd.R_alloc | apply Kd.R_drewN | apply Kd.R_drew)); exact HO_3.out) hb); have n1_ := Aside0.mk (Kd.R_below (by (with_reducible repeat (first | apply Kd.R_alloc | apply Kd.R_drewN | apply Kd.R_drew)); exact HO_4.out) hb); have n2_ := Aside0.mk (Kd.R_below (by (with_reducible repeat (first | apply Kd.R_alloc | apply Kd.R_drewN | apply Kd.R_drew)); exact HO_5.out) hb); have n3_ := Aside0.mk (Kd.R_below (by (with_reducible repeat (first | apply Kd.R_alloc | apply Kd.R_drewN | apply Kd.R_drew)); exact HO439.out) hb); have n4_ := Aside0.mk (Kd.R_below (by (with_reducible repeat (first | apply Kd.R_alloc | apply Kd.R_drewN | apply Kd.R_drew)); exact HO441.out) hb); have n5_ := Aside0.mk (Kd.R_below (by (with_reducible repeat (first | apply Kd.R_alloc | apply Kd.R_drewN | apply Kd.R_drew)); exact HO443.out) hb); have n6_ := Aside0.mk (below_step (by repeat (first | (with_reducible first | exact HB.out | apply below_alloc | apply pw_below_drewN | apply below_drew1) | exact HB.out)) hb); clear HO_3; clear HO_4; clear HO_5; clear HO439; clear HO441; clear HO443; clear HB; have HO_3 := n0_; have HO_4 := n1_; have HO_5 := n2_; have HO439 := n3_; have HO441 := n4_; have HO443 := n5_; have HB := n6_; clear n0_ n1_ n2_ n3_ n4_ n5_ n6_; (try clear hb); (try clear hb2); (try clear hk); (try clear hi)))
         all_goals (go_ret; exact ⟨by first | rfl | (simp [errW_none, errW_some] <;> rfl) | (simp [*, errW_none, errW_some] <;> rfl), by repeat (first | (with_reducible first | exact HB.out | apply below_alloc | apply pw_below_drewN | apply below_drew1) | exact HB.out)⟩)
        rw [if_pos c25] at H
        have c25b0 : decide (x9_2 < (t403.length : Int)) = true := decide_eq_true c25
        clear c25
        by_cases c26 : 0 ≤ x9_2
        rotate_left
        ·
         rw [if_neg c26] at H
         exact absurd H (by simp)
        rw [if_pos c26] at H
        have c26b0 := eq_true c26
        have c26b1 : decide (0 ≤ x9_2) = true := decide_eq_true c26
        clear c26
        by_cases c27 : x9_2 ≤ (t403.length : Int)
        rotate_left
        ·
         rw [if_neg c27] at H
         exact absurd H (by simp)
        rw [if_pos c27] at H
        have c27b0 := eq_true c27
        have c27b1 : decide (x9_2 ≤ (t403.length : Int)) = true := decide_eq_true c27
        clear c27
        obtain ⟨y411, hy411⟩ : ∃ y_ : List Int, y_ = (t403.take (x9_2 : Int).toNat) := ⟨_, rfl⟩
        replace H : ((laws_contains.f k2 y411 (rd t403 x9_2)).bind fun t416 => (if t416 = true then (some false) else (laws_FnRooms.l1 k2 l0 t397 t398 t403 x9_2 0))) = some r := by first | (rw [hy411]; with_reducible exact H) | (have H2_ := (Option.bind_some _ _).symm.trans H; rw [hy411]; with_reducible exact H2_) | (have H2_ := (Option.bind_some _ _).symm.trans H; with_reducible exact H2_) | with_reducible exact H | (rw [hy411]; exact H) | exact H
        have Ny411 := Aside0.mk hy411
        clear hy411
        replace H := Option.bind_eq_some_iff.mp H
        obtain ⟨t416, A280, H⟩ := H
        replace H : (if t416 = true then (some false) else (laws_FnRooms.l1 k2 l0 t397 t398 t403 x9_2 0)) = some r := H
        have A28 := Aside0.mk A280
        clear A280
        by_cases c29 : t416 = true
        rotate_left
        ·
         replace c29 := Bool.eq_false_iff.mpr c29
         subst c29
         have H1 : (laws_FnRooms.l1 k2 l0 t397 t398 t403 x9_2 0) = some r := by rw [if_neg (show ¬ (false = true) by decide)] at H; exact H
         clear H
         have H := H1
         clear H1
         have H' := Aside0.mk H
         clear H
         obtain ⟨Ao33, co33, eo33⟩ := Kd.R_slice HO_5.out
         subst eo33
         try go_wp2
         have n0_ := Aside0.mk (Kd.R_drew HO_3.out)
         have n1_ := Aside0.mk (Kd.R_drew HO_4.out)
         have n2_ := Aside0.mk (Kd.R_drew HO_5.out)
         have n3_ := Aside0.mk (below_drew1 HB.out)
         clear HO_3
         clear HO_4
         clear HO_5
         clear HB
         have HO_3 := n0_
         have HO_4 := n1_
         have HO_5 := n2_
         have HB := n3_
         clear n0_ n1_ n2_ n3_
         have q35 : (x9_2 : Int) ≤ ((t403.length : Int) : Int) := of_decide_eq_true (by first | (with_reducible assumption) | assumption)
         obtain ⟨i035, hi035, _, hsz35, _⟩ := info_parts info3
         have hroom35 : t403.length ≤ co33 := (Kd.R_reads' HO_5.out).2.1
         have hC35 : Kd.C (Kd.int .i64) _ Ao33 t403.length t403 := (Kd.R_reads' HO_5.out).2.2
         have hcut35 := cut_to (P := Try.prog) 23 3 .i64 Try.underlying23 hi035 Ao33 t403.length co33 x9_2 (of_decide_eq_true (by first | (with_reducible assumption) | assumption)) q35 hroom35
         have hr35 := Kd.C_take (m := (x9_2 : Int).toNat) hC35 (by omega)
         have hy35 : y411.length = (x9_2 : Int).toNat := (by rw [Ny411.out, List.length_take]; omega)
         rw [← Ny411.out] at hr35
         rw [← hy35] at hcut35
         have HR414 := Aside0.mk hr35
         have HC414 := Aside0.mk (show y411.length ≤ co33 from by omega)
         clear hr35 hC35 hroom35 hi035 hsz35
         have KY35 := Aside0.mk hy35
         clear hy35
         have KL35 := Aside0.mk (show (x9_2 : Int).toNat ≤ t403.length from by omega)
         replace q35 := eq_true q35
         have p415 : 0 ≤ (x9_2 : Int) := of_decide_eq_true (by first | (with_reducible assumption) | assumption)
         have q415 : x9_2 < (t403.length : Int) := of_decide_eq_true (by first | (with_reducible assumption) | assumption)
         obtain ⟨ad415, e415, hx415_0⟩ := Kd.at_int (Kd.R_reads' HO_5.out).2.2 x9_2 p415 q415
         cases e415
         replace p415 := eq_true p415
         replace q415 := eq_true q415
         refine start_ (n := 8) (S := fun w' => w'.cell? (ad415.add (x9_2).toNat) = some (.int .i64 (rd t403 x9_2))) (ds := []) (bv 8 0) (by kernel_rfl) rfl rfl (hx415_0) (fun hHeld => ?_); refine with_tabW laws_FnRooms.tab13 laws_FnRooms.bits13 (fun HT_ HW_ => ?_)
         generalize wr.drew = w34 at HO_3 HO_4 HO_5 HB HR414 hx415_0 hHeld ⊢
         refine pv_ 8 0 61 1 rfl rfl HT_ ?_; refine pv_ 8 1 62 3 rfl rfl HT_ ?_; refine pv_ 8 2 63 7 rfl rfl HT_ ?_; refine pv_ 8 3 64 15 rfl rfl HT_ ?_; refine pv_ 8 4 65 31 rfl rfl HT_ ?_; refine pv_ 8 5 66 63 rfl rfl HT_ ?_
         refine take_ (i := 6) (N := some 67) (v := ?_) (a' := ?_) (bv 8 127) rfl rfl (take_ofW HT_.out HW_.out (by kernel_rfl)) (fun _ _ _ h => h) (Or.inl ⟨by rfl, ?_⟩) hHeld ?_ ?_; rotate_left
         · intro w' s0
           go_simp
           all_goals (with_reducible rfl)
         rotate_left
         · simp only [Act.put, Z1, Z2, Z3, i64_w, i32_w]; rfl
         refine one_ (i := 7) (N := some 68) (bv 8 255) rfl rfl (one_of HT_.out (by kernel_rfl)) (by decide) (fun K hK => ?_)
         refine goes_ Try.func28 (by kernel_rfl) rfl #[.slice (some ad415) y411.length co33, .int .i64 (rd t403 x9_2)] (by rfl) rfl rfl (by (try simp only [List.map_toArray, List.map_cons, List.map_nil]); first | done | rfl | (simp only [List.length_drop, List.length_take]; rfl)) ?_
         with_reducible refine (laws_contains.calls k2 _ _ y411 (rd t403 x9_2) false _ ?side1 ?side2 A28.out).mono ?_
         (case side1 => repeat (first | exact (by repeat (first | (with_reducible exact HR414.out) | (with_reducible refine Kd.C_alloc ?_ _) | (with_reducible refine Kd.C_drewN ?_ _) | (with_reducible refine Kd.C_drew ?_) | exact HR414.out)) | (with_reducible refine Kd.C_alloc ?_ _) | (with_reducible refine Kd.C_drewN ?_ _) | (with_reducible refine Kd.C_drew ?_)))
         (case side2 => exact HC414.out)
         rintro e w' ⟨rfl, ⟨nd, rfl⟩⟩
         refine ⟨_, rfl, ?_⟩
         refine hK.out _ _ (hHeld) (fun hHeld => ?_)
         clear hK K
         refine nm_ 68 ?_
         refine done_ (done_of HT_.out (by kernel_rfl)) ?_
         try go_wp2
         go_loopg [10] k2 (fun kq v10 w' => ∃ (x10_3 : Int), v10 = .int .i64 x10_3 ∧ Aside0 (laws_FnRooms.l1 kq l0 t397 t398 t403 x9_2 x10_3 = some r) ∧ Aside0 (kq ≤ k2) ∧ Aside0 (Kd.R k73 73 w' w.heap.size (fun _ => True) (.slice Ao15 t397.length co15) t397) ∧ Aside0 (Kd.R (Kd.int .i64) 3 w' w.heap.size (fun k_ => some k_ ≠ ((.slice (some ad415) t403.length co33) : Value).ownBlock) (.slice Ao16 t398.length co16) t398) ∧ Aside0 (Kd.R (Kd.int .i64) 3 w' w.heap.size (fun k_ => some k_ ≠ ((.slice Ao16 t398.length co16) : Value).ownBlock) (.slice (some ad415) t403.length co33) t403) ∧ Aside0 (Kd.C (Kd.int .i64) w' (some ad415) y411.length y411) ∧ Aside0 (Below w.heap.size w w'))
         case atStart => exact ⟨(0), (by first | rfl | (simp; done) | (simp [*]; done)), H', ⟨Nat.le_refl _⟩, ⟨by (with_reducible repeat (first | apply Kd.R_alloc | apply Kd.R_drewN | apply Kd.R_drew)); exact HO_3.out⟩, ⟨by (with_reducible repeat (first | apply Kd.R_alloc | apply Kd.R_drewN | apply Kd.R_drew)); exact HO_4.out⟩, ⟨by (with_reducible repeat (first | apply Kd.R_alloc | apply Kd.R_drewN | apply Kd.R_drew)); exact HO_5.out⟩, ⟨by repeat (first | (with_reducible exact HR414.out) | (with_reducible refine Kd.C_alloc ?_ _) | (with_reducible refine Kd.C_drewN ?_ _) | (with_reducible refine Kd.C_drew ?_) | exact HR414.out)⟩, ⟨by repeat (first | (with_reducible first | exact HB.out | apply below_alloc | apply pw_below_drewN | apply below_drew1) | exact HB.out)⟩⟩
         case round =>
          clear H'
          try clear c1
          try clear c2
          try clear p2
          try clear c3
          try clear q3
          try clear p4
          try clear q4
          try clear hx4
          try clear c6
          try clear c7
          try clear c7b0
          try clear c7b1
          try clear c7b2
          try clear c19
          try clear c20
          try clear c20b0
          try clear c20b1
          try clear c20b2
          try clear c21
          try clear c22
          try clear c24
          try clear c25
          try clear c25b0
          try clear c26
          try clear c26b0
          try clear c26b1
          try clear c27
          try clear c27b0
          try clear c27b1
          try clear c28
          try clear c29
          try clear q32
          try clear q35
          try clear hx415_0
          try clear p2
          try clear p415
          try clear q32
          try clear q35
          try clear q415
          obtain ⟨x10_3, rfl, HA, HK3, HO_3, HO_4, HO_5, HR414, HB⟩ := hrel
          cases gk with
          | zero => exact absurd HA.out (by simp [laws_FnRooms.l1])
          | succ k3 =>
           have H := HA.out
           clear HA
           simp only [laws_FnRooms.l1] at H
           by_cases c36 : x10_3 < x9_2
           rotate_left
           ·
            rw [if_neg c36] at H
            have c36b0 : decide (x10_3 < x9_2) = false := decide_eq_false c36
            clear c36
            have H' := Aside0.mk H
            clear H
            go_wp2
            go_roundg k3
            case measure => have := HJ12.out; have := HK2.out; have := HK3.out; omega
            case rel => exact ⟨(wrap64 (x9_2 + 1)), (by first | rfl | (simp; done) | (simp [*]; done)), H', ⟨by have := HJ12.out; have := HK2.out; have := HK3.out; omega⟩, ⟨by (with_reducible repeat (first | apply Kd.R_alloc | apply Kd.R_drewN | apply Kd.R_drew)); exact HO_3.out⟩, ⟨by (with_reducible repeat (first | apply Kd.R_alloc | apply Kd.R_drewN | apply Kd.R_drew)); exact HO_4.out⟩, ⟨by (with_reducible repeat (first | apply Kd.R_alloc | apply Kd.R_drewN | apply Kd.R_drew)); exact HO_5.out⟩, ⟨by repeat (first | (with_reducible first | exact HB.out | apply below_alloc | apply pw_below_drewN | apply below_drew1) | exact HB.out)⟩⟩
           rw [if_pos c36] at H
           have c36b0 : decide (x10_3 < x9_2) = true := decide_eq_true c36
           clear c36
           by_cases c37 : 0 ≤ x9_2
           rotate_left
           ·
            rw [if_neg c37] at H
            exact absurd H (by simp)
           rw [if_pos c37] at H
           have c37b0 : decide (0 ≤ x9_2) = true := decide_eq_true c37
           clear c37
           by_cases c38 : x9_2 < (t398.length : Int)
           rotate_left
           ·
            rw [if_neg c38] at H
            exact absurd H (by simp)
           rw [if_pos c38] at H
           have c38b0 : decide (x9_2 < (t398.length : Int)) = true := decide_eq_true c38
           clear c38
           by_cases c39 : 0 ≤ x10_3
           rotate_left
           ·
            rw [if_neg c39] at H
            exact absurd H (by simp)
           rw [if_pos c39] at H
           have c39b0 : decide (0 ≤ x10_3) = true := decide_eq_true c39
           clear c39
           by_cases c40 : x10_3 < (t398.length : Int)
           rotate_left
           ·
            rw [if_neg c40] at H
            exact absurd H (by simp)
           rw [if_pos c40] at H
           have c40b0 : decide (x10_3 < (t398.length : Int)) = true := decide_eq_true c40
           clear c40
           by_cases c41 : (rd t398 x9_2) > (rd t398 x10_3)
           rotate_left
           ·
            rw [if_neg c41] at H
            have c41b0 : decide ((rd t398 x10_3) < (rd t398 x9_2)) = false := decide_eq_false c41
            clear c41
            have H' := Aside0.mk H
            clear H
            try go_wp2
            have n0_ := Aside0.mk (Kd.R_drew HO_3.out)
            have n1_ := Aside0.mk (Kd.R_drew HO_4.out)
            have n2_ := Aside0.mk (Kd.R_drew HO_5.out)
            have n3_ := Aside0.mk (Kd.C_drew HR414.out)
            have n4_ := Aside0.mk (below_drew1 HB.out)
            clear HO_3
            clear HO_4
            clear HO_5
            clear HR414
            clear HB
            have HO_3 := n0_
            have HO_4 := n1_
            have HO_5 := n2_
            have HR414 := n3_
            have HB := n4_
            clear n0_ n1_ n2_ n3_ n4_
            have p417 : 0 ≤ (x9_2 : Int) := of_decide_eq_true (by first | (with_reducible assumption) | assumption)
            have q417 : x9_2 < (t398.length : Int) := of_decide_eq_true (by first | (with_reducible assumption) | assumption)
            obtain ⟨ad417, e417, hx417_0⟩ := Kd.at_int (Kd.R_reads' HO_4.out).2.2 x9_2 p417 q417
            cases e417
            replace p417 := eq_true p417
            replace q417 := eq_true q417
            have p418 : 0 ≤ (x10_3 : Int) := of_decide_eq_true (by first | (with_reducible assumption) | assumption)
            have q418 : x10_3 < (t398.length : Int) := of_decide_eq_true (by first | (with_reducible assumption) | assumption)
            obtain ⟨ad418, e418, hx418_0⟩ := Kd.at_int (Kd.R_reads' HO_4.out).2.2 x10_3 p418 q418
            obtain rfl : ad417 = ad418 := (by injection e418)
            replace p418 := eq_true p418
            replace q418 := eq_true q418
            refine start_ (n := 28) (S := fun w' => w'.cell? (ad417.add (x9_2).toNat) = some (.int .i64 (rd t398 x9_2)) ∧ w'.cell? (ad417.add (x10_3).toNat) = some (.int .i64 (rd t398 x10_3))) (ds := []) (bv 28 0) (by kernel_rfl) rfl rfl ⟨hx417_0, hx418_0⟩ (fun hHeld => ?_); refine with_tabW laws_FnRooms.tab18 laws_FnRooms.bits18 (fun HT_ HW_ => ?_)
            generalize wr.drew = w75 at HO_3 HO_4 HO_5 HR414 HB hx417_0 hx418_0 hHeld ⊢
            refine pv_ 28 0 74 1 rfl rfl HT_ ?_; refine pv_ 28 1 75 3 rfl rfl HT_ ?_; refine pv_ 28 2 76 7 rfl rfl HT_ ?_; refine pv_ 28 4 78 23 rfl rfl HT_ ?_; refine pv_ 28 5 79 55 rfl rfl HT_ ?_; refine pv_ 28 6 80 119 rfl rfl HT_ ?_
            refine tv_ 28 3 77 127 rfl rfl HT_ HW_ hHeld (by rintro w' ⟨s0, s1⟩; go_simp; with_reducible rfl) ?_
            refine tv_ 28 7 81 255 rfl rfl HT_ HW_ hHeld (by rintro w' ⟨s0, s1⟩; go_simp; with_reducible rfl) ?_
            refine pv_ 28 8 82 511 rfl rfl HT_ ?_; refine pv_ 28 9 83 1023 rfl rfl HT_ ?_; refine pu_ 28 10 84 2047 rfl rfl HT_ ?_; refine pu_ 28 11 85 4095 rfl rfl HT_ ?_; refine pu_ 28 12 86 8191 rfl rfl HT_ ?_; refine pu_ 28 13 87 16383 rfl rfl HT_ ?_; refine pu_ 28 14 88 32767 rfl rfl HT_ ?_; refine pu_ 28 15 89 65535 rfl rfl HT_ ?_; refine pu_ 28 16 90 131071 rfl rfl HT_ ?_; refine pu_ 28 17 91 262143 rfl rfl HT_ ?_; refine pu_ 28 18 92 524287 rfl rfl HT_ ?_; refine pu_ 28 19 93 1048575 rfl rfl HT_ ?_; refine pu_ 28 20 94 2097151 rfl rfl HT_ ?_; refine pu_ 28 21 95 4194303 rfl rfl HT_ ?_; refine pu_ 28 22 96 8388607 rfl rfl HT_ ?_; refine pu_ 28 23 97 16777215 rfl rfl HT_ ?_; refine pu_ 28 24 98 33554431 rfl rfl HT_ ?_; refine pu_ 28 25 99 67108863 rfl rfl HT_ ?_; refine pu_ 28 26 100 134217727 rfl rfl HT_ ?_; refine pv_ 28 27 101 268435455 rfl rfl HT_ ?_
            refine done_ (done_of HT_.out (by kernel_rfl)) ?_
            try go_wp2
            go_roundg k3
            case measure => have := HJ12.out; have := HK2.out; have := HK3.out; omega
            case rel => exact ⟨(wrap64 (x10_3 + 1)), (by first | rfl | (simp; done) | (simp [*]; done)), H', ⟨by have := HJ12.out; have := HK2.out; have := HK3.out; omega⟩, ⟨by (with_reducible repeat (first | apply Kd.R_alloc | apply Kd.R_drewN | apply Kd.R_drew)); exact HO_3.out⟩, ⟨by (with_reducible repeat (first | apply Kd.R_alloc | apply Kd.R_drewN | apply Kd.R_drew)); exact HO_4.out⟩, ⟨by (with_reducible repeat (first | apply Kd.R_alloc | apply Kd.R_drewN | apply Kd.R_drew)); exact HO_5.out⟩, ⟨by repeat (first | (with_reducible exact HR414.out) | (with_reducible refine Kd.C_alloc ?_ _) | (with_reducible refine Kd.C_drewN ?_ _) | (with_reducible refine Kd.C_drew ?_) | exact HR414.out)⟩, ⟨by repeat (first | (with_reducible first | exact HB.out | apply below_alloc | apply pw_below_drewN | apply below_drew1) | exact HB.out)⟩⟩
           rw [if_pos c41] at H
           have c41b0 : decide ((rd t398 x10_3) < (rd t398 x9_2)) = true := decide_eq_true c41
           clear c41
           obtain ⟨y419, hy419⟩ : ∃ y_ : List Int, y_ = (([1000] : List Int)) := ⟨_, rfl⟩
           replace H : (if x9_2 ≤ (wrap64 (x9_2 + 1)) then (if (wrap64 (x9_2 + 1)) ≤ (t403.length : Int) then ((impl_TurnedAway.f k3 t397 y419 ((t403.take ((wrap64 (x9_2 + 1)) : Int).toNat).drop (x9_2 : Int).toNat)).bind fun t426 => (if x10_3 ≤ (wrap64 (x10_3 + 1)) then (if (wrap64 (x10_3 + 1)) ≤ (t403.length : Int) then ((impl_TurnedAway.f k3 t397 (([1000] : List Int)) ((t403.take ((wrap64 (x10_3 + 1)) : Int).toNat).drop (x10_3 : Int).toNat)).bind fun t434 => (if t426 > t434 then (some false) else (laws_FnRooms.l1 k3 l0 t397 t398 t403 x9_2 (wrap64 (x10_3 + 1))))) else (none)) else (none))) else (none)) else (none)) = some r := by first | (rw [hy419]; with_reducible exact H) | (have H2_ := (Option.bind_some _ _).symm.trans H; rw [hy419]; with_reducible exact H2_) | (have H2_ := (Option.bind_some _ _).symm.trans H; with_reducible exact H2_) | with_reducible exact H | (rw [hy419]; exact H) | exact H
           have Ny419 := Aside0.mk hy419
           clear hy419
           have c42b0 := eq_true (of_decide_eq_true (by first | (with_reducible assumption) | assumption) : 0 ≤ x9_2)
           by_cases c43 : x9_2 ≤ (wrap64 (x9_2 + 1))
           rotate_left
           ·
            rw [if_neg c43] at H
            exact absurd H (by simp)
           rw [if_pos c43] at H
           have c43b0 := eq_true c43
           have c43b1 : decide (x9_2 ≤ (wrap64 (x9_2 + 1))) = true := decide_eq_true c43
           by_cases c44 : (wrap64 (x9_2 + 1)) ≤ (t403.length : Int)
           rotate_left
           ·
            rw [if_neg c44] at H
            exact absurd H (by simp)
           rw [if_pos c44] at H
           have c44b0 := eq_true c44
           have c44b1 : decide ((wrap64 (x9_2 + 1)) ≤ (t403.length : Int)) = true := decide_eq_true c44
           obtain ⟨y422, hy422⟩ : ∃ y_ : List Int, y_ = ((t403.take ((wrap64 (x9_2 + 1)) : Int).toNat).drop (x9_2 : Int).toNat) := ⟨_, rfl⟩
           replace H : ((impl_TurnedAway.f k3 t397 y419 y422).bind fun t426 => (if x10_3 ≤ (wrap64 (x10_3 + 1)) then (if (wrap64 (x10_3 + 1)) ≤ (t403.length : Int) then ((impl_TurnedAway.f k3 t397 (([1000] : List Int)) ((t403.take ((wrap64 (x10_3 + 1)) : Int).toNat).drop (x10_3 : Int).toNat)).bind fun t434 => (if t426 > t434 then (some false) else (laws_FnRooms.l1 k3 l0 t397 t398 t403 x9_2 (wrap64 (x10_3 + 1))))) else (none)) else (none))) = some r := by first | (rw [hy422]; with_reducible exact H) | (have H2_ := (Option.bind_some _ _).symm.trans H; rw [hy422]; with_reducible exact H2_) | (have H2_ := (Option.bind_some _ _).symm.trans H; with_reducible exact H2_) | with_reducible exact H | (rw [hy422]; exact H) | exact H
           have Ny422 := Aside0.mk hy422
           clear hy422
           replace H := Option.bind_eq_some_iff.mp H
           obtain ⟨t426, A450, H⟩ := H
           replace H : (if x10_3 ≤ (wrap64 (x10_3 + 1)) then (if (wrap64 (x10_3 + 1)) ≤ (t403.length : Int) then ((impl_TurnedAway.f k3 t397 (([1000] : List Int)) ((t403.take ((wrap64 (x10_3 + 1)) : Int).toNat).drop (x10_3 : Int).toNat)).bind fun t434 => (if t426 > t434 then (some false) else (laws_FnRooms.l1 k3 l0 t397 t398 t403 x9_2 (wrap64 (x10_3 + 1))))) else (none)) else (none)) = some r := H
           have A45 := Aside0.mk A450
           clear A450
           obtain ⟨y427, hy427⟩ : ∃ y_ : List Int, y_ = (([1000] : List Int)) := ⟨_, rfl⟩
           replace H : (if x10_3 ≤ (wrap64 (x10_3 + 1)) then (if (wrap64 (x10_3 + 1)) ≤ (t403.length : Int) then ((impl_TurnedAway.f k3 t397 y427 ((t403.take ((wrap64 (x10_3 + 1)) : Int).toNat).drop (x10_3 : Int).toNat)).bind fun t434 => (if t426 > t434 then (some false) else (laws_FnRooms.l1 k3 l0 t397 t398 t403 x9_2 (wrap64 (x10_3 + 1))))) else (none)) else (none)) = some r := by first | (rw [hy427]; with_reducible exact H) | (have H2_ := (Option.bind_some _ _).symm.trans H; rw [hy427]; with_reducible exact H2_) | (have H2_ := (Option.bind_some _ _).symm.trans H; with_reducible exact H2_) | with_reducible exact H | (rw [hy427]; exact H) | exact H
           have Ny427 := Aside0.mk hy427
           clear hy427
           have c46b0 := eq_true (of_decide_eq_true (by first | (with_reducible assumption) | assumption) : 0 ≤ x10_3)
           by_cases c47 : x10_3 ≤ (wrap64 (x10_3 + 1))
           rotate_left
           ·
            rw [if_neg c47] at H
            exact absurd H (by simp)
           rw [if_pos c47] at H
           have c47b0 := eq_true c47
           have c47b1 : decide (x10_3 ≤ (wrap64 (x10_3 + 1))) = true := decide_eq_true c47
           by_cases c48 : (wrap64 (x10_3 + 1)) ≤ (t403.length : Int)
           rotate_left
           ·
            rw [if_neg c48] at H
            exact absurd H (by simp)
           rw [if_pos c48] at H
           have c48b0 := eq_true c48
           have c48b1 : decide ((wrap64 (x10_3 + 1)) ≤ (t403.length : Int)) = true := decide_eq_true c48
           obtain ⟨y430, hy430⟩ : ∃ y_ : List Int, y_ = ((t403.take ((wrap64 (x10_3 + 1)) : Int).toNat).drop (x10_3 : Int).toNat) := ⟨_, rfl⟩
           replace H : ((impl_TurnedAway.f k3 t397 y427 y430).bind fun t434 => (if t426 > t434 then (some false) else (laws_FnRooms.l1 k3 l0 t397 t398 t403 x9_2 (wrap64 (x10_3 + 1))))) = some r := by first | (rw [hy430]; with_reducible exact H) | (have H2_ := (Option.bind_some _ _).symm.trans H; rw [hy430]; with_reducible exact H2_) | (have H2_ := (Option.bind_some _ _).symm.trans H; with_reducible exact H2_) | with_reducible exact H | (rw [hy430]; exact H) | exact H
           have Ny430 := Aside0.mk hy430
           clear hy430
           replace H := Option.bind_eq_some_iff.mp H
           obtain ⟨t434, A490, H⟩ := H
           replace H : (if t426 > t434 then (some false) else (laws_FnRooms.l1 k3 l0 t397 t398 t403 x9_2 (wrap64 (x10_3 + 1)))) = some r := H
           have A49 := Aside0.mk A490
           clear A490
           by_cases c50 : t426 > t434
           rotate_left
           ·
            rw [if_neg c50] at H
            have c50b0 : decide (t434 < t426) = false := decide_eq_false c50
            clear c50
            have H' := Aside0.mk H
            clear H
            try go_wp2
            have n0_ := Aside0.mk (Kd.R_drew HO_3.out)
            have n1_ := Aside0.mk (Kd.R_drew HO_4.out)
            have n2_ := Aside0.mk (Kd.R_drew HO_5.out)
            have n3_ := Aside0.mk (Kd.C_drew HR414.out)
            have n4_ := Aside0.mk (below_drew1 HB.out)
            clear HO_3
            clear HO_4
            clear HO_5
            clear HR414
            clear HB
            have HO_3 := n0_
            have HO_4 := n1_
            have HO_5 := n2_
            have HR414 := n3_
            have HB := n4_
            clear n0_ n1_ n2_ n3_ n4_
            have p417 : 0 ≤ (x9_2 : Int) := of_decide_eq_true (by first | (with_reducible assumption) | assumption)
            have q417 : x9_2 < (t398.length : Int) := of_decide_eq_true (by first | (with_reducible assumption) | assumption)
            obtain ⟨ad417, e417, hx417_0⟩ := Kd.at_int (Kd.R_reads' HO_4.out).2.2 x9_2 p417 q417
            cases e417
            replace p417 := eq_true p417
            replace q417 := eq_true q417
            have p418 : 0 ≤ (x10_3 : Int) := of_decide_eq_true (by first | (with_reducible assumption) | assumption)
            have q418 : x10_3 < (t398.length : Int) := of_decide_eq_true (by first | (with_reducible assumption) | assumption)
            obtain ⟨ad418, e418, hx418_0⟩ := Kd.at_int (Kd.R_reads' HO_4.out).2.2 x10_3 p418 q418
            obtain rfl : ad417 = ad418 := (by injection e418)
            replace p418 := eq_true p418
            replace q418 := eq_true q418
            have q64 : ((wrap64 (x9_2 + 1)) : Int) ≤ ((t403.length : Int) : Int) := of_decide_eq_true (by first | (with_reducible assumption) | assumption)
            obtain ⟨i064, hi064, _, hsz64, _⟩ := info_parts info3
            have hroom64 : t403.length ≤ co33 := (Kd.R_reads' HO_5.out).2.1
            have hC64 : Kd.C (Kd.int .i64) _ (some ad415) t403.length t403 := (Kd.R_reads' HO_5.out).2.2
            have ql64 : (x9_2 : Int) ≤ ((wrap64 (x9_2 + 1)) : Int) := of_decide_eq_true (by first | (with_reducible assumption) | assumption)
            have q064 : (0 : Int) ≤ (x9_2 : Int) := of_decide_eq_true (by first | (with_reducible assumption) | assumption)
            have hcut64 := cut_mid (P := Try.prog) 23 3 .i64 .i64 Try.underlying23 hi064 1 hsz64 (some ad415) t403.length co33 x9_2 (wrap64 (x9_2 + 1)) q064 ql64 q64 hroom64
            have hr64 := Kd.C_mid (lo := (x9_2 : Int).toNat) (hi := ((wrap64 (x9_2 + 1)) : Int).toNat) (c := co33) hC64 (by omega) (by omega) hroom64
            obtain ⟨A64, hA64⟩ : ∃ A1, A1 = (if co33 = (x9_2 : Int).toNat then (some ad415) else ((some ad415) : Option Addr).map (·.add ((x9_2 : Int).toNat * 1))) := ⟨_, rfl⟩
            obtain ⟨c64, hc64⟩ : ∃ c_, c_ = co33 - (x9_2 : Int).toNat := ⟨_, rfl⟩
            have hy64 : y422.length = ((wrap64 (x9_2 + 1)) : Int).toNat - (x9_2 : Int).toNat := (by rw [Ny422.out, List.length_drop, List.length_take] <;> omega)
            rw [show ((t403).take ((wrap64 (x9_2 + 1)) : Int).toNat).drop (x9_2 : Int).toNat = y422 from Ny422.out.symm] at hr64
            replace hr64 : Kd.C (Kd.int .i64) _ A64 y422.length y422 := (by rw [hA64]; exact hr64)
            rw [← hy64, ← hA64, ← hc64] at hcut64
            have HR425 := Aside0.mk hr64
            have HC425 := Aside0.mk (show y422.length ≤ c64 from by rw [hy64, hc64]; exact Nat.sub_le_sub_right (Nat.le_trans (by omega) hroom64) _)
            clear hr64 hC64 hroom64 hi064 hsz64 hc64
            have KY64 := Aside0.mk hy64
            have KA64 := Aside0.mk hA64
            clear hy64 hA64
            have KL64 := Aside0.mk (show ((wrap64 (x9_2 + 1)) : Int).toNat ≤ t403.length from by omega)
            have KM64 := Aside0.mk (show (x9_2 : Int).toNat ≤ ((wrap64 (x9_2 + 1)) : Int).toNat from by omega)
            replace q64 := eq_true q64
            have q65 : ((wrap64 (x10_3 + 1)) : Int) ≤ ((t403.length : Int) : Int) := of_decide_eq_true (by first | (with_reducible assumption) | assumption)
            obtain ⟨i065, hi065, _, hsz65, _⟩ := info_parts info3
            have hroom65 : t403.length ≤ co33 := (Kd.R_reads' HO_5.out).2.1
            have hC65 : Kd.C (Kd.int .i64) _ (some ad415) t403.length t403 := (Kd.R_reads' HO_5.out).2.2
            have ql65 : (x10_3 : Int) ≤ ((wrap64 (x10_3 + 1)) : Int) := of_decide_eq_true (by first | (with_reducible assumption) | assumption)
            have q065 : (0 : Int) ≤ (x10_3 : Int) := of_decide_eq_true (by first | (with_reducible assumption) | assumption)
            have hcut65 := cut_mid (P := Try.prog) 23 3 .i64 .i64 Try.underlying23 hi065 1 hsz65 (some ad415) t403.length co33 x10_3 (wrap64 (x10_3 + 1)) q065 ql65 q65 hroom65
            have hr65 := Kd.C_mid (lo := (x10_3 : Int).toNat) (hi := ((wrap64 (x10_3 + 1)) : Int).toNat) (c := co33) hC65 (by omega) (by omega) hroom65
            obtain ⟨A65, hA65⟩ : ∃ A1, A1 = (if co33 = (x10_3 : Int).toNat then (some ad415) else ((some ad415) : Option Addr).map (·.add ((x10_3 : Int).toNat * 1))) := ⟨_, rfl⟩
            obtain ⟨c65, hc65⟩ : ∃ c_, c_ = co33 - (x10_3 : Int).toNat := ⟨_, rfl⟩
            have hy65 : y430.length = ((wrap64 (x10_3 + 1)) : Int).toNat - (x10_3 : Int).toNat := (by rw [Ny430.out, List.length_drop, List.length_take] <;> omega)
            rw [show ((t403).take ((wrap64 (x10_3 + 1)) : Int).toNat).drop (x10_3 : Int).toNat = y430 from Ny430.out.symm] at hr65
            replace hr65 : Kd.C (Kd.int .i64) _ A65 y430.length y430 := (by rw [hA65]; exact hr65)
            rw [← hy65, ← hA65, ← hc65] at hcut65
            have HR433 := Aside0.mk hr65
            have HC433 := Aside0.mk (show y430.length ≤ c65 from by rw [hy65, hc65]; exact Nat.sub_le_sub_right (Nat.le_trans (by omega) hroom65) _)
            clear hr65 hC65 hroom65 hi065 hsz65 hc65
            have KY65 := Aside0.mk hy65
            have KA65 := Aside0.mk hA65
            clear hy65 hA65
            have KL65 := Aside0.mk (show ((wrap64 (x10_3 + 1)) : Int).toNat ≤ t403.length from by omega)
            have KM65 := Aside0.mk (show (x10_3 : Int).toNat ≤ ((wrap64 (x10_3 + 1)) : Int).toNat from by omega)
            replace q65 := eq_true q65
            refine start_ (n := 28) (S := fun w' => w'.cell? (ad417.add (x9_2).toNat) = some (.int .i64 (rd t398 x9_2)) ∧ w'.cell? (ad417.add (x10_3).toNat) = some (.int .i64 (rd t398 x10_3))) (ds := []) (bv 28 0) (by kernel_rfl) rfl rfl ⟨hx417_0, hx418_0⟩ (fun hHeld => ?_); refine with_tabW laws_FnRooms.tab18 laws_FnRooms.bits18 (fun HT_ HW_ => ?_)
            generalize wr.drew = w63 at HO_3 HO_4 HO_5 HR414 HB HR425 HR433 hx417_0 hx418_0 hHeld ⊢
            refine pv_ 28 0 74 1 rfl rfl HT_ ?_
            refine pv_ 28 1 75 3 rfl rfl HT_ ?_
            refine pv_ 28 2 76 7 rfl rfl HT_ ?_
            refine pv_ 28 4 78 23 rfl rfl HT_ ?_
            refine pv_ 28 5 79 55 rfl rfl HT_ ?_
            refine pv_ 28 6 80 119 rfl rfl HT_ ?_
            refine tv_ 28 3 77 127 rfl rfl HT_ HW_ hHeld (by rintro w' ⟨s0, s1⟩; go_simp; with_reducible rfl) ?_
            refine tv_ 28 7 81 255 rfl rfl HT_ HW_ hHeld (by rintro w' ⟨s0, s1⟩; go_simp; with_reducible rfl) ?_
            refine pv_ 28 8 82 511 rfl rfl HT_ ?_
            refine pv_ 28 9 83 1023 rfl rfl HT_ ?_
            refine pv_ 28 10 84 2047 rfl rfl HT_ ?_
            refine pv_ 28 12 86 6143 rfl rfl HT_ ?_
            refine pv_ 28 13 87 14335 rfl rfl HT_ ?_
            refine pv_ 28 14 88 30719 rfl rfl HT_ ?_
            refine pv_ 28 15 89 63487 rfl rfl HT_ ?_
            refine pv_ 28 16 90 129023 rfl rfl HT_ ?_
            refine pv_ 28 18 92 391167 rfl rfl HT_ ?_
            refine pv_ 28 20 94 1439743 rfl rfl HT_ ?_
            refine pv_ 28 21 95 3536895 rfl rfl HT_ ?_
            refine pv_ 28 22 96 7731199 rfl rfl HT_ ?_
            refine pv_ 28 23 97 16119807 rfl rfl HT_ ?_
            refine pv_ 28 24 98 32897023 rfl rfl HT_ ?_
            refine join_ (σ := Value × Value) 2 (bv 28 67108863) (fun s_ => [(85, s_.1), (93, s_.2), (91, .int .i64 t426), (99, .int .i64 t434)]) (fun s_ w' => (w'.cell? (ad417.add (x9_2).toNat) = some (.int .i64 (rd t398 x9_2)) ∧ w'.cell? (ad417.add (x10_3).toNat) = some (.int .i64 (rd t398 x10_3))) ∧ (Kd.R k73 73 w' w.heap.size (fun _ => True) (.slice Ao15 t397.length co15) t397) ∧ (Kd.R (Kd.int .i64) 3 w' w.heap.size (fun k_ => some k_ ≠ ((.slice (some ad415) t403.length co33) : Value).ownBlock) (.slice (some ad417) t398.length co16) t398) ∧ (Kd.R (Kd.int .i64) 3 w' w.heap.size (fun k_ => some k_ ≠ ((.slice (some ad417) t398.length co16) : Value).ownBlock) (.slice (some ad415) t403.length co33) t403) ∧ Below w.heap.size w w') ?hcont ?_
            rotate_left
            ·
             intro hCont
             have HS_ := hHeld
             refine two_ (i := 11) (j := 19) (Ni := some 85) (Nj := some 93) (bv 28 32899071) (bv 28 33421311) rfl rfl rfl rfl (two_of HT_.out (by kernel_rfl)) (by decide) (by decide) (fun K hK => ?_) (fun K hK => ?_)
             ·
              skip
              refine Kd.R_lit_step (Kd.int .i64) _ 3 ?hg (N := 85) ?hd (xs := ([1000] : List Int)) (inner := [.int .i64 1000]) (ok := fun _ => True) (okp := fun _ => True) ?hr ?hp (fun _ hk => hk) trivial (Below.refl _ _) (Nat.le_refl _) (by simp) ?_; (case hd => rfl); (case hg => rfl); (case hr => first | (go_simp; done) | (go_simp; rfl)); (case hp => exact (Reps.one (show Kd.M (Kd.int .i64) _ _ _ 1000 [.int .i64 1000] from rfl) (Reps.none _ _)))
              intro vb1 wz1 ho hb hg_ hnew_
              clear hg_ hnew_
              rw [← Ny419.out] at ho
              obtain ⟨Ab1, cb1, eb_⟩ := Kd.R_slice ho
              subst eb_
              replace HO_3 := Aside0.mk (Kd.R_below HO_3.out hb)
              replace HO_4 := Aside0.mk (Kd.R_below HO_4.out hb)
              replace HO_5 := Aside0.mk (Kd.R_below HO_5.out hb)
              replace HR425 := Aside0.mk (Kd.C_below HR425.out hb)
              replace HR433 := Aside0.mk (Kd.C_below HR433.out hb)
              replace HB := Aside0.mk (below_step HB.out hb)
              have HX1 := Aside0.mk ho
              clear ho
              replace HS_ := (show _ ∧ _ from ⟨(hb.cell (World.block_lt_of_cell? _ _ HS_.1)).trans HS_.1, (hb.cell (World.block_lt_of_cell? _ _ HS_.2)).trans HS_.2⟩)
              clear hb
              refine hK.out _ _ HS_ (fun hHeld => ?_)
              clear hK K
              refine nm_ 85 ?_
              refine two_ (i := 17) (j := 19) (Ni := some 91) (Nj := some 93) (bv 28 33030143) (bv 28 33423359) rfl rfl rfl rfl (two_of HT_.out (by kernel_rfl)) (by decide) (by decide) (fun K hK => ?_) (fun K hK => ?_)
              ·
               skip
               refine goes_ Try.func16 (by kernel_rfl) rfl #[.slice Ao15 t397.length co15, .slice Ab1 y419.length cb1, .slice A64 y422.length c64] (by rfl) rfl rfl (by (try simp only [List.map_toArray, List.map_cons, List.map_nil]); first | done | rfl | (simp only [List.length_drop, List.length_take]; rfl)) ?_
               with_reducible refine (impl_TurnedAway.calls k3 _ _ t397 _ _ y419 _ _ y422 t426 _ ?side1 ?side2 ?side3 ?side4 ?side5 ?side6 A45.out).mono ?_
               (case side1 => exact (Kd.R_reads' HO_3.out).2.2)
               (case side2 => exact (Kd.R_reads' HO_3.out).2.1)
               (case side3 => exact (Kd.R_reads' HX1.out).2.2)
               (case side4 => exact (Kd.R_reads' HX1.out).2.1)
               (case side5 => exact HR425.out)
               (case side6 => exact HC425.out)
               rintro e wz2 ⟨rfl, hb⟩
               refine ⟨_, rfl, ?_⟩
               replace HO_3 := Aside0.mk (Kd.R_below HO_3.out hb)
               replace HO_4 := Aside0.mk (Kd.R_below HO_4.out hb)
               replace HO_5 := Aside0.mk (Kd.R_below HO_5.out hb)
               replace HX1 := Aside0.mk (Kd.R_below HX1.out hb)
               replace HR425 := Aside0.mk (Kd.C_below HR425.out hb)
               replace HR433 := Aside0.mk (Kd.C_below HR433.out hb)
               replace HB := Aside0.mk (below_step HB.out hb)
               replace HS_ := (show _ ∧ _ from ⟨(hb.cell (World.block_lt_of_cell? _ _ HS_.1)).trans HS_.1, (hb.cell (World.block_lt_of_cell? _ _ HS_.2)).trans HS_.2⟩)
               clear hb
               refine hK.out _ _ HS_ (fun hHeld => ?_)
               clear hK K
               refine nm_ 91 ?_
               refine one_ (i := 19) (N := some 93) (bv 28 33554431) rfl rfl (one_of HT_.out (by kernel_rfl)) (by decide) (fun K hK => ?_)
               refine Kd.R_lit_step (Kd.int .i64) _ 3 ?hg (N := 93) ?hd (xs := ([1000] : List Int)) (inner := [.int .i64 1000]) (ok := fun _ => True) (okp := fun _ => True) ?hr ?hp (fun _ hk => hk) trivial (Below.refl _ _) (Nat.le_refl _) (by simp) ?_; (case hd => rfl); (case hg => rfl); (case hr => first | (go_simp; done) | (go_simp; rfl)); (case hp => exact (Reps.one (show Kd.M (Kd.int .i64) _ _ _ 1000 [.int .i64 1000] from rfl) (Reps.none _ _)))
               intro vb2 wz3 ho hb hg_ hnew_
               clear hg_ hnew_
               rw [← Ny427.out] at ho
               obtain ⟨Ab2, cb2, eb_⟩ := Kd.R_slice ho
               subst eb_
               replace HO_3 := Aside0.mk (Kd.R_below HO_3.out hb)
               replace HO_4 := Aside0.mk (Kd.R_below HO_4.out hb)
               replace HO_5 := Aside0.mk (Kd.R_below HO_5.out hb)
               replace HX1 := Aside0.mk (Kd.R_below HX1.out hb)
               replace HR425 := Aside0.mk (Kd.C_below HR425.out hb)
               replace HR433 := Aside0.mk (Kd.C_below HR433.out hb)
               replace HB := Aside0.mk (below_step HB.out hb)
               have HX2 := Aside0.mk ho
               clear ho
               replace HS_ := (show _ ∧ _ from ⟨(hb.cell (World.block_lt_of_cell? _ _ HS_.1)).trans HS_.1, (hb.cell (World.block_lt_of_cell? _ _ HS_.2)).trans HS_.2⟩)
               clear hb
               refine hK.out _ _ HS_ (fun hHeld => ?_)
               clear hK K
               refine nm_ 93 ?_
               refine one_ (i := 25) (N := some 99) (bv 28 67108863) rfl rfl (one_of HT_.out (by kernel_rfl)) (by decide) (fun K hK => ?_)
               refine goes_ Try.func16 (by kernel_rfl) rfl #[.slice Ao15 t397.length co15, .slice Ab2 y427.length cb2, .slice A65 y430.length c65] (by rfl) rfl rfl (by (try simp only [List.map_toArray, List.map_cons, List.map_nil]); first | done | rfl | (simp only [List.length_drop, List.length_take]; rfl)) ?_
               with_reducible refine (impl_TurnedAway.calls k3 _ _ t397 _ _ y427 _ _ y430 t434 _ ?side1 ?side2 ?side3 ?side4 ?side5 ?side6 A49.out).mono ?_
               (case side1 => exact (Kd.R_reads' HO_3.out).2.2)
               (case side2 => exact (Kd.R_reads' HO_3.out).2.1)
               (case side3 => exact (Kd.R_reads' HX2.out).2.2)
               (case side4 => exact (Kd.R_reads' HX2.out).2.1)
               (case side5 => exact HR433.out)
               (case side6 => exact HC433.out)
               rintro e wz4 ⟨rfl, hb⟩
               refine ⟨_, rfl, ?_⟩
               replace HO_3 := Aside0.mk (Kd.R_below HO_3.out hb)
               replace HO_4 := Aside0.mk (Kd.R_below HO_4.out hb)
               replace HO_5 := Aside0.mk (Kd.R_below HO_5.out hb)
               replace HX1 := Aside0.mk (Kd.R_below HX1.out hb)
               replace HX2 := Aside0.mk (Kd.R_below HX2.out hb)
               replace HR425 := Aside0.mk (Kd.C_below HR425.out hb)
               replace HR433 := Aside0.mk (Kd.C_below HR433.out hb)
               replace HB := Aside0.mk (below_step HB.out hb)
               replace HS_ := (show _ ∧ _ from ⟨(hb.cell (World.block_lt_of_cell? _ _ HS_.1)).trans HS_.1, (hb.cell (World.block_lt_of_cell? _ _ HS_.2)).trans HS_.2⟩)
               clear hb
               refine hK.out _ _ HS_ (fun hHeld => ?_)
               clear hK K
               refine nm_ 99 ?_
               exact norm_ (by simp only [putAll, Act.put, Z1, Z2, Z3]) (hCont (.slice Ab1 y419.length cb1, .slice Ab2 y427.length cb2) _ ⟨HS_, HO_3.out, HO_4.out, HO_5.out, HB.out⟩)
              ·
               skip
               refine Kd.R_lit_step (Kd.int .i64) _ 3 ?hg (N := 93) ?hd (xs := ([1000] : List Int)) (inner := [.int .i64 1000]) (ok := fun _ => True) (okp := fun _ => True) ?hr ?hp (fun _ hk => hk) trivial (Below.refl _ _) (Nat.le_refl _) (by simp) ?_; (case hd => rfl); (case hg => rfl); (case hr => first | (go_simp; done) | (go_simp; rfl)); (case hp => exact (Reps.one (show Kd.M (Kd.int .i64) _ _ _ 1000 [.int .i64 1000] from rfl) (Reps.none _ _)))
               intro vb2 wz5 ho hb hg_ hnew_
               clear hg_ hnew_
               rw [← Ny427.out] at ho
               obtain ⟨Ab2, cb2, eb_⟩ := Kd.R_slice ho
               subst eb_
               replace HO_3 := Aside0.mk (Kd.R_below HO_3.out hb)
               replace HO_4 := Aside0.mk (Kd.R_below HO_4.out hb)
               replace HO_5 := Aside0.mk (Kd.R_below HO_5.out hb)
               replace HX1 := Aside0.mk (Kd.R_below HX1.out hb)
               replace HR425 := Aside0.mk (Kd.C_below HR425.out hb)
               replace HR433 := Aside0.mk (Kd.C_below HR433.out hb)
               replace HB := Aside0.mk (below_step HB.out hb)
               have HX2 := Aside0.mk ho
               clear ho
               replace HS_ := (show _ ∧ _ from ⟨(hb.cell (World.block_lt_of_cell? _ _ HS_.1)).trans HS_.1, (hb.cell (World.block_lt_of_cell? _ _ HS_.2)).trans HS_.2⟩)
               clear hb
               refine hK.out _ _ HS_ (fun hHeld => ?_)
               clear hK K
               refine nm_ 93 ?_
               refine one_ (i := 17) (N := some 91) (bv 28 33554431) rfl rfl (one_of HT_.out (by kernel_rfl)) (by decide) (fun K hK => ?_)
               refine goes_ Try.func16 (by kernel_rfl) rfl #[.slice Ao15 t397.length co15, .slice Ab1 y419.length cb1, .slice A64 y422.length c64] (by rfl) rfl rfl (by (try simp only [List.map_toArray, List.map_cons, List.map_nil]); first | done | rfl | (simp only [List.length_drop, List.length_take]; rfl)) ?_
               with_reducible refine (impl_TurnedAway.calls k3 _ _ t397 _ _ y419 _ _ y422 t426 _ ?side1 ?side2 ?side3 ?side4 ?side5 ?side6 A45.out).mono ?_
               (case side1 => exact (Kd.R_reads' HO_3.out).2.2)
               (case side2 => exact (Kd.R_reads' HO_3.out).2.1)
               (case side3 => exact (Kd.R_reads' HX1.out).2.2)
               (case side4 => exact (Kd.R_reads' HX1.out).2.1)
               (case side5 => exact HR425.out)
               (case side6 => exact HC425.out)
               rintro e wz6 ⟨rfl, hb⟩
               refine ⟨_, rfl, ?_⟩
               replace HO_3 := Aside0.mk (Kd.R_below HO_3.out hb)
               replace HO_4 := Aside0.mk (Kd.R_below HO_4.out hb)
               replace HO_5 := Aside0.mk (Kd.R_below HO_5.out hb)
               replace HX1 := Aside0.mk (Kd.R_below HX1.out hb)
               replace HX2 := Aside0.mk (Kd.R_below HX2.out hb)
               replace HR425 := Aside0.mk (Kd.C_below HR425.out hb)
               replace HR433 := Aside0.mk (Kd.C_below HR433.out hb)
               replace HB := Aside0.mk (below_step HB.out hb)
               replace HS_ := (show _ ∧ _ from ⟨(hb.cell (World.block_lt_of_cell? _ _ HS_.1)).trans HS_.1, (hb.cell (World.block_lt_of_cell? _ _ HS_.2)).trans HS_.2⟩)
               clear hb
               refine hK.out _ _ HS_ (fun hHeld => ?_)
               clear hK K
               refine nm_ 91 ?_
               refine one_ (i := 25) (N := some 99) (bv 28 67108863) rfl rfl (one_of HT_.out (by kernel_rfl)) (by decide) (fun K hK => ?_)
               refine goes_ Try.func16 (by kernel_rfl) rfl #[.slice Ao15 t397.length co15, .slice Ab2 y427.length cb2, .slice A65 y430.length c65] (by rfl) rfl rfl (by (try simp only [List.map_toArray, List.map_cons, List.map_nil]); first | done | rfl | (simp only [List.length_drop, List.length_take]; rfl)) ?_
               with_reducible refine (impl_TurnedAway.calls k3 _ _ t397 _ _ y427 _ _ y430 t434 _ ?side1 ?side2 ?side3 ?side4 ?side5 ?side6 A49.out).mono ?_
               (case side1 => exact (Kd.R_reads' HO_3.out).2.2)
               (case side2 => exact (Kd.R_reads' HO_3.out).2.1)
               (case side3 => exact (Kd.R_reads' HX2.out).2.2)
               (case side4 => exact (Kd.R_reads' HX2.out).2.1)
               (case side5 => exact HR433.out)
               (case side6 => exact HC433.out)
               rintro e wz7 ⟨rfl, hb⟩
               refine ⟨_, rfl, ?_⟩
               replace HO_3 := Aside0.mk (Kd.R_below HO_3.out hb)
               replace HO_4 := Aside0.mk (Kd.R_below HO_4.out hb)
               replace HO_5 := Aside0.mk (Kd.R_below HO_5.out hb)
               replace HX1 := Aside0.mk (Kd.R_below HX1.out hb)
               replace HX2 := Aside0.mk (Kd.R_below HX2.out hb)
               replace HR425 := Aside0.mk (Kd.C_below HR425.out hb)
               replace HR433 := Aside0.mk (Kd.C_below HR433.out hb)
               replace HB := Aside0.mk (below_step HB.out hb)
               replace HS_ := (show _ ∧ _ from ⟨(hb.cell (World.block_lt_of_cell? _ _ HS_.1)).trans HS_.1, (hb.cell (World.block_lt_of_cell? _ _ HS_.2)).trans HS_.2⟩)
               clear hb
               refine hK.out _ _ HS_ (fun hHeld => ?_)
               clear hK K
               refine nm_ 99 ?_
               exact norm_ (by simp only [putAll, Act.put, Z1, Z2, Z3]) (hCont (.slice Ab1 y419.length cb1, .slice Ab2 y427.length cb2) _ ⟨HS_, HO_3.out, HO_4.out, HO_5.out, HB.out⟩)
             ·
              skip
              refine Kd.R_lit_step (Kd.int .i64) _ 3 ?hg (N := 93) ?hd (xs := ([1000] : List Int)) (inner := [.int .i64 1000]) (ok := fun _ => True) (okp := fun _ => True) ?hr ?hp (fun _ hk => hk) trivial (Below.refl _ _) (Nat.le_refl _) (by simp) ?_; (case hd => rfl); (case hg => rfl); (case hr => first | (go_simp; done) | (go_simp; rfl)); (case hp => exact (Reps.one (show Kd.M (Kd.int .i64) _ _ _ 1000 [.int .i64 1000] from rfl) (Reps.none _ _)))
              intro vb2 wz8 ho hb hg_ hnew_
              clear hg_ hnew_
              rw [← Ny427.out] at ho
              obtain ⟨Ab2, cb2, eb_⟩ := Kd.R_slice ho
              subst eb_
              replace HO_3 := Aside0.mk (Kd.R_below HO_3.out hb)
              replace HO_4 := Aside0.mk (Kd.R_below HO_4.out hb)
              replace HO_5 := Aside0.mk (Kd.R_below HO_5.out hb)
              replace HR425 := Aside0.mk (Kd.C_below HR425.out hb)
              replace HR433 := Aside0.mk (Kd.C_below HR433.out hb)
              replace HB := Aside0.mk (below_step HB.out hb)
              have HX2 := Aside0.mk ho
              clear ho
              replace HS_ := (show _ ∧ _ from ⟨(hb.cell (World.block_lt_of_cell? _ _ HS_.1)).trans HS_.1, (hb.cell (World.block_lt_of_cell? _ _ HS_.2)).trans HS_.2⟩)
              clear hb
              refine hK.out _ _ HS_ (fun hHeld => ?_)
              clear hK K
              refine nm_ 93 ?_
              refine one_ (i := 11) (N := some 85) (bv 28 33423359) rfl rfl (one_of HT_.out (by kernel_rfl)) (by decide) (fun K hK => ?_)
              refine Kd.R_lit_step (Kd.int .i64) _ 3 ?hg (N := 85) ?hd (xs := ([1000] : List Int)) (inner := [.int .i64 1000]) (ok := fun _ => True) (okp := fun _ => True) ?hr ?hp (fun _ hk => hk) trivial (Below.refl _ _) (Nat.le_refl _) (by simp) ?_; (case hd => rfl); (case hg => rfl); (case hr => first | (go_simp; done) | (go_simp; rfl)); (case hp => exact (Reps.one (show Kd.M (Kd.int .i64) _ _ _ 1000 [.int .i64 1000] from rfl) (Reps.none _ _)))
              intro vb1 wz9 ho hb hg_ hnew_
              clear hg_ hnew_
              rw [← Ny419.out] at ho
              obtain ⟨Ab1, cb1, eb_⟩ := Kd.R_slice ho
              subst eb_
              replace HO_3 := Aside0.mk (Kd.R_below HO_3.out hb)
              replace HO_4 := Aside0.mk (Kd.R_below HO_4.out hb)
              replace HO_5 := Aside0.mk (Kd.R_below HO_5.out hb)
              replace HX2 := Aside0.mk (Kd.R_below HX2.out hb)
              replace HR425 := Aside0.mk (Kd.C_below HR425.out hb)
              replace HR433 := Aside0.mk (Kd.C_below HR433.out hb)
              replace HB := Aside0.mk (below_step HB.out hb)
              have HX1 := Aside0.mk ho
              clear ho
              replace HS_ := (show _ ∧ _ from ⟨(hb.cell (World.block_lt_of_cell? _ _ HS_.1)).trans HS_.1, (hb.cell (World.block_lt_of_cell? _ _ HS_.2)).trans HS_.2⟩)
              clear hb
              refine hK.out _ _ HS_ (fun hHeld => ?_)
              clear hK K
              refine nm_ 85 ?_
              refine one_ (i := 17) (N := some 91) (bv 28 33554431) rfl rfl (one_of HT_.out (by kernel_rfl)) (by decide) (fun K hK => ?_)
              refine goes_ Try.func16 (by kernel_rfl) rfl #[.slice Ao15 t397.length co15, .slice Ab1 y419.length cb1, .slice A64 y422.length c64] (by rfl) rfl rfl (by (try simp only [List.map_toArray, List.map_cons, List.map_nil]); first | done | rfl | (simp only [List.length_drop, List.length_take]; rfl)) ?_
              with_reducible refine (impl_TurnedAway.calls k3 _ _ t397 _ _ y419 _ _ y422 t426 _ ?side1 ?side2 ?side3 ?side4 ?side5 ?side6 A45.out).mono ?_
              (case side1 => exact (Kd.R_reads' HO_3.out).2.2)
              (case side2 => exact (Kd.R_reads' HO_3.out).2.1)
              (case side3 => exact (Kd.R_reads' HX1.out).2.2)
              (case side4 => exact (Kd.R_reads' HX1.out).2.1)
              (case side5 => exact HR425.out)
              (case side6 => exact HC425.out)
              rintro e wz10 ⟨rfl, hb⟩
              refine ⟨_, rfl, ?_⟩
              replace HO_3 := Aside0.mk (Kd.R_below HO_3.out hb)
              replace HO_4 := Aside0.mk (Kd.R_below HO_4.out hb)
              replace HO_5 := Aside0.mk (Kd.R_below HO_5.out hb)
              replace HX2 := Aside0.mk (Kd.R_below HX2.out hb)
              replace HX1 := Aside0.mk (Kd.R_below HX1.out hb)
              replace HR425 := Aside0.mk (Kd.C_below HR425.out hb)
              replace HR433 := Aside0.mk (Kd.C_below HR433.out hb)
              replace HB := Aside0.mk (below_step HB.out hb)
              replace HS_ := (show _ ∧ _ from ⟨(hb.cell (World.block_lt_of_cell? _ _ HS_.1)).trans HS_.1, (hb.cell (World.block_lt_of_cell? _ _ HS_.2)).trans HS_.2⟩)
              clear hb
              refine hK.out _ _ HS_ (fun hHeld => ?_)
              clear hK K
              refine nm_ 91 ?_
              refine one_ (i := 25) (N := some 99) (bv 28 67108863) rfl rfl (one_of HT_.out (by kernel_rfl)) (by decide) (fun K hK => ?_)
              refine goes_ Try.func16 (by kernel_rfl) rfl #[.slice Ao15 t397.length co15, .slice Ab2 y427.length cb2, .slice A65 y430.length c65] (by rfl) rfl rfl (by (try simp only [List.map_toArray, List.map_cons, List.map_nil]); first | done | rfl | (simp only [List.length_drop, List.length_take]; rfl)) ?_
              with_reducible refine (impl_TurnedAway.calls k3 _ _ t397 _ _ y427 _ _ y430 t434 _ ?side1 ?side2 ?side3 ?side4 ?side5 ?side6 A49.out).mono ?_
              (case side1 => exact (Kd.R_reads' HO_3.out).2.2)
              (case side2 => exact (Kd.R_reads' HO_3.out).2.1)
              (case side3 => exact (Kd.R_reads' HX2.out).2.2)
              (case side4 => exact (Kd.R_reads' HX2.out).2.1)
              (case side5 => exact HR433.out)
              (case side6 => exact HC433.out)
              rintro e wz11 ⟨rfl, hb⟩
              refine ⟨_, rfl, ?_⟩
              replace HO_3 := Aside0.mk (Kd.R_below HO_3.out hb)
              replace HO_4 := Aside0.mk (Kd.R_below HO_4.out hb)
              replace HO_5 := Aside0.mk (Kd.R_below HO_5.out hb)
              replace HX2 := Aside0.mk (Kd.R_below HX2.out hb)
              replace HX1 := Aside0.mk (Kd.R_below HX1.out hb)
              replace HR425 := Aside0.mk (Kd.C_below HR425.out hb)
              replace HR433 := Aside0.mk (Kd.C_below HR433.out hb)
              replace HB := Aside0.mk (below_step HB.out hb)
              replace HS_ := (show _ ∧ _ from ⟨(hb.cell (World.block_lt_of_cell? _ _ HS_.1)).trans HS_.1, (hb.cell (World.block_lt_of_cell? _ _ HS_.2)).trans HS_.2⟩)
              clear hb
              refine hK.out _ _ HS_ (fun hHeld => ?_)
              clear hK K
              refine nm_ 99 ?_
              exact norm_ (by simp only [putAll, Act.put, Z1, Z2, Z3]) (hCont (.slice Ab1 y419.length cb1, .slice Ab2 y427.length cb2) _ ⟨HS_, HO_3.out, HO_4.out, HO_5.out, HB.out⟩)
            case hcont =>
             rintro ⟨vb1, vb2⟩ w50 ⟨hS_, hr3_, hr4_, hr5_, hb_⟩
             clear HO_3 HO_4 HO_5 HB HR414 HR425 HR433 hx417_0 hx418_0 hHeld
             have HO_3 := Aside0.mk hr3_; have HO_4 := Aside0.mk hr4_; have HO_5 := Aside0.mk hr5_; have HB := Aside0.mk hb_
             clear hr3_ hr4_ hr5_ hb_ hS_
             refine norm_ (a' := ?_) ?_ ?_
             rotate_left
             ·
              simp only [putAll, Act.put, Z1, Z2, Z3]
              rfl
             refine pv_ 28 26 100 134217727 rfl rfl HT_ ?_
             refine pv_ 28 27 101 268435455 rfl rfl HT_ ?_
             refine done_ (done_of HT_.out (by kernel_rfl)) ?_
             have HR414 := Aside0.mk (show Kd.C (Kd.int .i64) w50 (some ad415) y411.length y411 from by rw [Ny411.out]; exact Kd.C_take (m := (x9_2 : Int).toNat) ((Kd.R_reads' HO_5.out).2.2) KL35.out)
             try go_wp2
             go_roundg k3
             case measure => have := HJ12.out; have := HK2.out; have := HK3.out; omega
             case rel => exact ⟨(wrap64 (x10_3 + 1)), (by first | rfl | (simp; done) | (simp [*]; done)), H', ⟨by have := HJ12.out; have := HK2.out; have := HK3.out; omega⟩, ⟨by (with_reducible repeat (first | apply Kd.R_alloc | apply Kd.R_drewN | apply Kd.R_drew)); exact HO_3.out⟩, ⟨by (with_reducible repeat (first | apply Kd.R_alloc | apply Kd.R_drewN | apply Kd.R_drew)); exact HO_4.out⟩, ⟨by (with_reducible repeat (first | apply Kd.R_alloc | apply Kd.R_drewN | apply Kd.R_drew)); exact HO_5.out⟩, ⟨by repeat (first | (with_reducible exact HR414.out) | (with_reducible refine Kd.C_alloc ?_ _) | (with_reducible refine Kd.C_drewN ?_ _) | (with_reducible refine Kd.C_drew ?_) | exact HR414.out)⟩, ⟨by repeat (first | (with_reducible first | exact HB.out | apply below_alloc | apply pw_below_drewN | apply below_drew1) | exact HB.out)⟩⟩
           rw [if_pos c50] at H
           have c50b0 : decide (t434 < t426) = true := decide_eq_true c50
           clear c50
           obtain rfl := Option.some.inj H
           try go_wp2
           have n0_ := Aside0.mk (Kd.R_drew HO_3.out)
           have n1_ := Aside0.mk (Kd.R_drew HO_4.out)
           have n2_ := Aside0.mk (Kd.R_drew HO_5.out)
           have n3_ := Aside0.mk (Kd.C_drew HR414.out)
           have n4_ := Aside0.mk (below_drew1 HB.out)
           clear HO_3
           clear HO_4
           clear HO_5
           clear HR414
           clear HB
           have HO_3 := n0_
           have HO_4 := n1_
           have HO_5 := n2_
           have HR414 := n3_
           have HB := n4_
           clear n0_ n1_ n2_ n3_ n4_
           have p417 : 0 ≤ (x9_2 : Int) := of_decide_eq_true (by first | (with_reducible assumption) | assumption)
           have q417 : x9_2 < (t398.length : Int) := of_decide_eq_true (by first | (with_reducible assumption) | assumption)
           obtain ⟨ad417, e417, hx417_0⟩ := Kd.at_int (Kd.R_reads' HO_4.out).2.2 x9_2 p417 q417
           cases e417
           replace p417 := eq_true p417
           replace q417 := eq_true q417
           have p418 : 0 ≤ (x10_3 : Int) := of_decide_eq_true (by first | (with_reducible assumption) | assumption)
           have q418 : x10_3 < (t398.length : Int) := of_decide_eq_true (by first | (with_reducible assumption) | assumption)
           obtain ⟨ad418, e418, hx418_0⟩ := Kd.at_int (Kd.R_reads' HO_4.out).2.2 x10_3 p418 q418
           obtain rfl : ad417 = ad418 := (by injection e418)
           replace p418 := eq_true p418
           replace q418 := eq_true q418
           have q52 : ((wrap64 (x9_2 + 1)) : Int) ≤ ((t403.length : Int) : Int) := of_decide_eq_true (by first | (with_reducible assumption) | assumption)
           obtain ⟨i052, hi052, _, hsz52, _⟩ := info_parts info3
           have hroom52 : t403.length ≤ co33 := (Kd.R_reads' HO_5.out).2.1
           have hC52 : Kd.C (Kd.int .i64) _ (some ad415) t403.length t403 := (Kd.R_reads' HO_5.out).2.2
           have ql52 : (x9_2 : Int) ≤ ((wrap64 (x9_2 + 1)) : Int) := of_decide_eq_true (by first | (with_reducible assumption) | assumption)
           have q052 : (0 : Int) ≤ (x9_2 : Int) := of_decide_eq_true (by first | (with_reducible assumption) | assumption)
           have hcut52 := cut_mid (P := Try.prog) 23 3 .i64 .i64 Try.underlying23 hi052 1 hsz52 (some ad415) t403.length co33 x9_2 (wrap64 (x9_2 + 1)) q052 ql52 q52 hroom52
           have hr52 := Kd.C_mid (lo := (x9_2 : Int).toNat) (hi := ((wrap64 (x9_2 + 1)) : Int).toNat) (c := co33) hC52 (by omega) (by omega) hroom52
           obtain ⟨A52, hA52⟩ : ∃ A1, A1 = (if co33 = (x9_2 : Int).toNat then (some ad415) else ((some ad415) : Option Addr).map (·.add ((x9_2 : Int).toNat * 1))) := ⟨_, rfl⟩
           obtain ⟨c52, hc52⟩ : ∃ c_, c_ = co33 - (x9_2 : Int).toNat := ⟨_, rfl⟩
           have hy52 : y422.length = ((wrap64 (x9_2 + 1)) : Int).toNat - (x9_2 : Int).toNat := (by rw [Ny422.out, List.length_drop, List.length_take] <;> omega)
           rw [show ((t403).take ((wrap64 (x9_2 + 1)) : Int).toNat).drop (x9_2 : Int).toNat = y422 from Ny422.out.symm] at hr52
           replace hr52 : Kd.C (Kd.int .i64) _ A52 y422.length y422 := (by rw [hA52]; exact hr52)
           rw [← hy52, ← hA52, ← hc52] at hcut52
           have HR425 := Aside0.mk hr52
           have HC425 := Aside0.mk (show y422.length ≤ c52 from by rw [hy52, hc52]; exact Nat.sub_le_sub_right (Nat.le_trans (by omega) hroom52) _)
           clear hr52 hC52 hroom52 hi052 hsz52 hc52
           have KY52 := Aside0.mk hy52
           have KA52 := Aside0.mk hA52
           clear hy52 hA52
           have KL52 := Aside0.mk (show ((wrap64 (x9_2 + 1)) : Int).toNat ≤ t403.length from by omega)
           have KM52 := Aside0.mk (show (x9_2 : Int).toNat ≤ ((wrap64 (x9_2 + 1)) : Int).toNat from by omega)
           replace q52 := eq_true q52
           have q53 : ((wrap64 (x10_3 + 1)) : Int) ≤ ((t403.length : Int) : Int) := of_decide_eq_true (by first | (with_reducible assumption) | assumption)
           obtain ⟨i053, hi053, _, hsz53, _⟩ := info_parts info3
           have hroom53 : t403.length ≤ co33 := (Kd.R_reads' HO_5.out).2.1
           have hC53 : Kd.C (Kd.int .i64) _ (some ad415) t403.length t403 := (Kd.R_reads' HO_5.out).2.2
           have ql53 : (x10_3 : Int) ≤ ((wrap64 (x10_3 + 1)) : Int) := of_decide_eq_true (by first | (with_reducible assumption) | assumption)
           have q053 : (0 : Int) ≤ (x10_3 : Int) := of_decide_eq_true (by first | (with_reducible assumption) | assumption)
           have hcut53 := cut_mid (P := Try.prog) 23 3 .i64 .i64 Try.underlying23 hi053 1 hsz53 (some ad415) t403.length co33 x10_3 (wrap64 (x10_3 + 1)) q053 ql53 q53 hroom53
           have hr53 := Kd.C_mid (lo := (x10_3 : Int).toNat) (hi := ((wrap64 (x10_3 + 1)) : Int).toNat) (c := co33) hC53 (by omega) (by omega) hroom53
           obtain ⟨A53, hA53⟩ : ∃ A1, A1 = (if co33 = (x10_3 : Int).toNat then (some ad415) else ((some ad415) : Option Addr).map (·.add ((x10_3 : Int).toNat * 1))) := ⟨_, rfl⟩
           obtain ⟨c53, hc53⟩ : ∃ c_, c_ = co33 - (x10_3 : Int).toNat := ⟨_, rfl⟩
           have hy53 : y430.length = ((wrap64 (x10_3 + 1)) : Int).toNat - (x10_3 : Int).toNat := (by rw [Ny430.out, List.length_drop, List.length_take] <;> omega)
           rw [show ((t403).take ((wrap64 (x10_3 + 1)) : Int).toNat).drop (x10_3 : Int).toNat = y430 from Ny430.out.symm] at hr53
           replace hr53 : Kd.C (Kd.int .i64) _ A53 y430.length y430 := (by rw [hA53]; exact hr53)
           rw [← hy53, ← hA53, ← hc53] at hcut53
           have HR433 := Aside0.mk hr53
           have HC433 := Aside0.mk (show y430.length ≤ c53 from by rw [hy53, hc53]; exact Nat.sub_le_sub_right (Nat.le_trans (by omega) hroom53) _)
           clear hr53 hC53 hroom53 hi053 hsz53 hc53
           have KY53 := Aside0.mk hy53
           have KA53 := Aside0.mk hA53
           clear hy53 hA53
           have KL53 := Aside0.mk (show ((wrap64 (x10_3 + 1)) : Int).toNat ≤ t403.length from by omega)
           have KM53 := Aside0.mk (show (x10_3 : Int).toNat ≤ ((wrap64 (x10_3 + 1)) : Int).toNat from by omega)
           replace q53 := eq_true q53
           refine start_ (n := 28) (S := fun w' => w'.cell? (ad417.add (x9_2).toNat) = some (.int .i64 (rd t398 x9_2)) ∧ w'.cell? (ad417.add (x10_3).toNat) = some (.int .i64 (rd t398 x10_3))) (ds := []) (bv 28 0) (by kernel_rfl) rfl rfl ⟨hx417_0, hx418_0⟩ (fun hHeld => ?_); refine with_tabW laws_FnRooms.tab18 laws_FnRooms.bits18 (fun HT_ HW_ => ?_)
           generalize wr.drew = w51 at HO_3 HO_4 HO_5 HR414 HB HR425 HR433 hx417_0 hx418_0 hHeld ⊢
           refine pv_ 28 0 74 1 rfl rfl HT_ ?_
           refine pv_ 28 1 75 3 rfl rfl HT_ ?_
           refine pv_ 28 2 76 7 rfl rfl HT_ ?_
           refine pv_ 28 4 78 23 rfl rfl HT_ ?_
           refine pv_ 28 5 79 55 rfl rfl HT_ ?_
           refine pv_ 28 6 80 119 rfl rfl HT_ ?_
           refine tv_ 28 3 77 127 rfl rfl HT_ HW_ hHeld (by rintro w' ⟨s0, s1⟩; go_simp; with_reducible rfl) ?_
           refine tv_ 28 7 81 255 rfl rfl HT_ HW_ hHeld (by rintro w' ⟨s0, s1⟩; go_simp; with_reducible rfl) ?_
           refine pv_ 28 8 82 511 rfl rfl HT_ ?_
           refine pv_ 28 9 83 1023 rfl rfl HT_ ?_
           refine pv_ 28 10 84 2047 rfl rfl HT_ ?_
           refine pv_ 28 12 86 6143 rfl rfl HT_ ?_
           refine pv_ 28 13 87 14335 rfl rfl HT_ ?_
           refine pv_ 28 14 88 30719 rfl rfl HT_ ?_
           refine pv_ 28 15 89 63487 rfl rfl HT_ ?_
           refine pv_ 28 16 90 129023 rfl rfl HT_ ?_
           refine pv_ 28 18 92 391167 rfl rfl HT_ ?_
           refine pv_ 28 20 94 1439743 rfl rfl HT_ ?_
           refine pv_ 28 21 95 3536895 rfl rfl HT_ ?_
           refine pv_ 28 22 96 7731199 rfl rfl HT_ ?_
           refine pv_ 28 23 97 16119807 rfl rfl HT_ ?_
           refine pv_ 28 24 98 32897023 rfl rfl HT_ ?_
           refine join_ (σ := Value × Value) 2 (bv 28 67108863) (fun s_ => [(85, s_.1), (93, s_.2), (91, .int .i64 t426), (99, .int .i64 t434)]) (fun s_ w' => (w'.cell? (ad417.add (x9_2).toNat) = some (.int .i64 (rd t398 x9_2)) ∧ w'.cell? (ad417.add (x10_3).toNat) = some (.int .i64 (rd t398 x10_3))) ∧ (Kd.R k73 73 w' w.heap.size (fun _ => True) (.slice Ao15 t397.length co15) t397) ∧ (Kd.R (Kd.int .i64) 3 w' w.heap.size (fun k_ => some k_ ≠ ((.slice (some ad415) t403.length co33) : Value).ownBlock) (.slice (some ad417) t398.length co16) t398) ∧ (Kd.R (Kd.int .i64) 3 w' w.heap.size (fun k_ => some k_ ≠ ((.slice (some ad417) t398.length co16) : Value).ownBlock) (.slice (some ad415) t403.length co33) t403) ∧ Below w.heap.size w w') ?hcont ?_
           rotate_left
           ·
            intro hCont
            have HS_ := hHeld
            refine two_ (i := 11) (j := 19) (Ni := some 85) (Nj := some 93) (bv 28 32899071) (bv 28 33421311) rfl rfl rfl rfl (two_of HT_.out (by kernel_rfl)) (by decide) (by decide) (fun K hK => ?_) (fun K hK => ?_)
            ·
             skip
             refine Kd.R_lit_step (Kd.int .i64) _ 3 ?hg (N := 85) ?hd (xs := ([1000] : List Int)) (inner := [.int .i64 1000]) (ok := fun _ => True) (okp := fun _ => True) ?hr ?hp (fun _ hk => hk) trivial (Below.refl _ _) (Nat.le_refl _) (by simp) ?_; (case hd => rfl); (case hg => rfl); (case hr => first | (go_simp; done) | (go_simp; rfl)); (case hp => exact (Reps.one (show Kd.M (Kd.int .i64) _ _ _ 1000 [.int .i64 1000] from rfl) (Reps.none _ _)))
             intro vb1 wz1 ho hb hg_ hnew_
             clear hg_ hnew_
             rw [← Ny419.out] at ho
             obtain ⟨Ab1, cb1, eb_⟩ := Kd.R_slice ho
             subst eb_
             replace HO_3 := Aside0.mk (Kd.R_below HO_3.out hb)
             replace HO_4 := Aside0.mk (Kd.R_below HO_4.out hb)
             replace HO_5 := Aside0.mk (Kd.R_below HO_5.out hb)
             replace HR425 := Aside0.mk (Kd.C_below HR425.out hb)
             replace HR433 := Aside0.mk (Kd.C_below HR433.out hb)
             replace HB := Aside0.mk (below_step HB.out hb)
             have HX1 := Aside0.mk ho
             clear ho
             replace HS_ := (show _ ∧ _ from ⟨(hb.cell (World.block_lt_of_cell? _ _ HS_.1)).trans HS_.1, (hb.cell (World.block_lt_of_cell? _ _ HS_.2)).trans HS_.2⟩)
             clear hb
             refine hK.out _ _ HS_ (fun hHeld => ?_)
             clear hK K
             refine nm_ 85 ?_
             refine two_ (i := 17) (j := 19) (Ni := some 91) (Nj := some 93) (bv 28 33030143) (bv 28 33423359) rfl rfl rfl rfl (two_of HT_.out (by kernel_rfl)) (by decide) (by decide) (fun K hK => ?_) (fun K hK => ?_)
             ·
              skip
              refine goes_ Try.func16 (by kernel_rfl) rfl #[.slice Ao15 t397.length co15, .slice Ab1 y419.length cb1, .slice A52 y422.length c52] (by rfl) rfl rfl (by (try simp only [List.map_toArray, List.map_cons, List.map_nil]); first | done | rfl | (simp only [List.length_drop, List.length_take]; rfl)) ?_
              with_reducible refine (impl_TurnedAway.calls k3 _ _ t397 _ _ y419 _ _ y422 t426 _ ?side1 ?side2 ?side3 ?side4 ?side5 ?side6 A45.out).mono ?_
              (case side1 => exact (Kd.R_reads' HO_3.out).2.2)
              (case side2 => exact (Kd.R_reads' HO_3.out).2.1)
              (case side3 => exact (Kd.R_reads' HX1.out).2.2)
              (case side4 => exact (Kd.R_reads' HX1.out).2.1)
              (case side5 => exact HR425.out)
              (case side6 => exact HC425.out)
              rintro e wz2 ⟨rfl, hb⟩
              refine ⟨_, rfl, ?_⟩
              replace HO_3 := Aside0.mk (Kd.R_below HO_3.out hb)
              replace HO_4 := Aside0.mk (Kd.R_below HO_4.out hb)
              replace HO_5 := Aside0.mk (Kd.R_below HO_5.out hb)
              replace HX1 := Aside0.mk (Kd.R_below HX1.out hb)
              replace HR425 := Aside0.mk (Kd.C_below HR425.out hb)
              replace HR433 := Aside0.mk (Kd.C_below HR433.out hb)
              replace HB := Aside0.mk (below_step HB.out hb)
              replace HS_ := (show _ ∧ _ from ⟨(hb.cell (World.block_lt_of_cell? _ _ HS_.1)).trans HS_.1, (hb.cell (World.block_lt_of_cell? _ _ HS_.2)).trans HS_.2⟩)
              clear hb
              refine hK.out _ _ HS_ (fun hHeld => ?_)
              clear hK K
              refine nm_ 91 ?_
              refine one_ (i := 19) (N := some 93) (bv 28 33554431) rfl rfl (one_of HT_.out (by kernel_rfl)) (by decide) (fun K hK => ?_)
              refine Kd.R_lit_step (Kd.int .i64) _ 3 ?hg (N := 93) ?hd (xs := ([1000] : List Int)) (inner := [.int .i64 1000]) (ok := fun _ => True) (okp := fun _ => True) ?hr ?hp (fun _ hk => hk) trivial (Below.refl _ _) (Nat.le_refl _) (by simp) ?_; (case hd => rfl); (case hg => rfl); (case hr => first | (go_simp; done) | (go_simp; rfl)); (case hp => exact (Reps.one (show Kd.M (Kd.int .i64) _ _ _ 1000 [.int .i64 1000] from rfl) (Reps.none _ _)))
              intro vb2 wz3 ho hb hg_ hnew_
              clear hg_ hnew_
              rw [← Ny427.out] at ho
              obtain ⟨Ab2, cb2, eb_⟩ := Kd.R_slice ho
              subst eb_
              replace HO_3 := Aside0.mk (Kd.R_below HO_3.out hb)
              replace HO_4 := Aside0.mk (Kd.R_below HO_4.out hb)
              replace HO_5 := Aside0.mk (Kd.R_below HO_5.out hb)
              replace HX1 := Aside0.mk (Kd.R_below HX1.out hb)
              replace HR425 := Aside0.mk (Kd.C_below HR425.out hb)
              replace HR433 := Aside0.mk (Kd.C_below HR433.out hb)
              replace HB := Aside0.mk (below_step HB.out hb)
              have HX2 := Aside0.mk ho
              clear ho
              replace HS_ := (show _ ∧ _ from ⟨(hb.cell (World.block_lt_of_cell? _ _ HS_.1)).trans HS_.1, (hb.cell (World.block_lt_of_cell? _ _ HS_.2)).trans HS_.2⟩)
              clear hb
              refine hK.out _ _ HS_ (fun hHeld => ?_)
              clear hK K
              refine nm_ 93 ?_
              refine one_ (i := 25) (N := some 99) (bv 28 67108863) rfl rfl (one_of HT_.out (by kernel_rfl)) (by decide) (fun K hK => ?_)
              refine goes_ Try.func16 (by kernel_rfl) rfl #[.slice Ao15 t397.length co15, .slice Ab2 y427.length cb2, .slice A53 y430.length c53] (by rfl) rfl rfl (by (try simp only [List.map_toArray, List.map_cons, List.map_nil]); first | done | rfl | (simp only [List.length_drop, List.length_take]; rfl)) ?_
              with_reducible refine (impl_TurnedAway.calls k3 _ _ t397 _ _ y427 _ _ y430 t434 _ ?side1 ?side2 ?side3 ?side4 ?side5 ?side6 A49.out).mono ?_
              (case side1 => exact (Kd.R_reads' HO_3.out).2.2)
              (case side2 => exact (Kd.R_reads' HO_3.out).2.1)
              (case side3 => exact (Kd.R_reads' HX2.out).2.2)
              (case side4 => exact (Kd.R_reads' HX2.out).2.1)
              (case side5 => exact HR433.out)
              (case side6 => exact HC433.out)
              rintro e wz4 ⟨rfl, hb⟩
              refine ⟨_, rfl, ?_⟩
              replace HO_3 := Aside0.mk (Kd.R_below HO_3.out hb)
              replace HO_4 := Aside0.mk (Kd.R_below HO_4.out hb)
              replace HO_5 := Aside0.mk (Kd.R_below HO_5.out hb)
              replace HX1 := Aside0.mk (Kd.R_below HX1.out hb)
              replace HX2 := Aside0.mk (Kd.R_below HX2.out hb)
              replace HR425 := Aside0.mk (Kd.C_below HR425.out hb)
              replace HR433 := Aside0.mk (Kd.C_below HR433.out hb)
              replace HB := Aside0.mk (below_step HB.out hb)
              replace HS_ := (show _ ∧ _ from ⟨(hb.cell (World.block_lt_of_cell? _ _ HS_.1)).trans HS_.1, (hb.cell (World.block_lt_of_cell? _ _ HS_.2)).trans HS_.2⟩)
              clear hb
              refine hK.out _ _ HS_ (fun hHeld => ?_)
              clear hK K
              refine nm_ 99 ?_
              exact norm_ (by simp only [putAll, Act.put, Z1, Z2, Z3]) (hCont (.slice Ab1 y419.length cb1, .slice Ab2 y427.length cb2) _ ⟨HS_, HO_3.out, HO_4.out, HO_5.out, HB.out⟩)
             ·
              skip
              refine Kd.R_lit_step (Kd.int .i64) _ 3 ?hg (N := 93) ?hd (xs := ([1000] : List Int)) (inner := [.int .i64 1000]) (ok := fun _ => True) (okp := fun _ => True) ?hr ?hp (fun _ hk => hk) trivial (Below.refl _ _) (Nat.le_refl _) (by simp) ?_; (case hd => rfl); (case hg => rfl); (case hr => first | (go_simp; done) | (go_simp; rfl)); (case hp => exact (Reps.one (show Kd.M (Kd.int .i64) _ _ _ 1000 [.int .i64 1000] from rfl) (Reps.none _ _)))
              intro vb2 wz5 ho hb hg_ hnew_
              clear hg_ hnew_
              rw [← Ny427.out] at ho
              obtain ⟨Ab2, cb2, eb_⟩ := Kd.R_slice ho
              subst eb_
              replace HO_3 := Aside0.mk (Kd.R_below HO_3.out hb)
              replace HO_4 := Aside0.mk (Kd.R_below HO_4.out hb)
              replace HO_5 := Aside0.mk (Kd.R_below HO_5.out hb)
              replace HX1 := Aside0.mk (Kd.R_below HX1.out hb)
              replace HR425 := Aside0.mk (Kd.C_below HR425.out hb)
              replace HR433 := Aside0.mk (Kd.C_below HR433.out hb)
              replace HB := Aside0.mk (below_step HB.out hb)
              have HX2 := Aside0.mk ho
              clear ho
              replace HS_ := (show _ ∧ _ from ⟨(hb.cell (World.block_lt_of_cell? _ _ HS_.1)).trans HS_.1, (hb.cell (World.block_lt_of_cell? _ _ HS_.2)).trans HS_.2⟩)
              clear hb
              refine hK.out _ _ HS_ (fun hHeld => ?_)
              clear hK K
              refine nm_ 93 ?_
              refine one_ (i := 17) (N := some 91) (bv 28 33554431) rfl rfl (one_of HT_.out (by kernel_rfl)) (by decide) (fun K hK => ?_)
              refine goes_ Try.func16 (by kernel_rfl) rfl #[.slice Ao15 t397.length co15, .slice Ab1 y419.length cb1, .slice A52 y422.length c52] (by rfl) rfl rfl (by (try simp only [List.map_toArray, List.map_cons, List.map_nil]); first | done | rfl | (simp only [List.length_drop, List.length_take]; rfl)) ?_
              with_reducible refine (impl_TurnedAway.calls k3 _ _ t397 _ _ y419 _ _ y422 t426 _ ?side1 ?side2 ?side3 ?side4 ?side5 ?side6 A45.out).mono ?_
              (case side1 => exact (Kd.R_reads' HO_3.out).2.2)
              (case side2 => exact (Kd.R_reads' HO_3.out).2.1)
              (case side3 => exact (Kd.R_reads' HX1.out).2.2)
              (case side4 => exact (Kd.R_reads' HX1.out).2.1)
              (case side5 => exact HR425.out)
              (case side6 => exact HC425.out)
              rintro e wz6 ⟨rfl, hb⟩
              refine ⟨_, rfl, ?_⟩
              replace HO_3 := Aside0.mk (Kd.R_below HO_3.out hb)
              replace HO_4 := Aside0.mk (Kd.R_below HO_4.out hb)
              replace HO_5 := Aside0.mk (Kd.R_below HO_5.out hb)
              replace HX1 := Aside0.mk (Kd.R_below HX1.out hb)
              replace HX2 := Aside0.mk (Kd.R_below HX2.out hb)
              replace HR425 := Aside0.mk (Kd.C_below HR425.out hb)
              replace HR433 := Aside0.mk (Kd.C_below HR433.out hb)
              replace HB := Aside0.mk (below_step HB.out hb)
              replace HS_ := (show _ ∧ _ from ⟨(hb.cell (World.block_lt_of_cell? _ _ HS_.1)).trans HS_.1, (hb.cell (World.block_lt_of_cell? _ _ HS_.2)).trans HS_.2⟩)
              clear hb
              refine hK.out _ _ HS_ (fun hHeld => ?_)
              clear hK K
              refine nm_ 91 ?_
              refine one_ (i := 25) (N := some 99) (bv 28 67108863) rfl rfl (one_of HT_.out (by kernel_rfl)) (by decide) (fun K hK => ?_)
              refine goes_ Try.func16 (by kernel_rfl) rfl #[.slice Ao15 t397.length co15, .slice Ab2 y427.length cb2, .slice A53 y430.length c53] (by rfl) rfl rfl (by (try simp only [List.map_toArray, List.map_cons, List.map_nil]); first | done | rfl | (simp only [List.length_drop, List.length_take]; rfl)) ?_
              with_reducible refine (impl_TurnedAway.calls k3 _ _ t397 _ _ y427 _ _ y430 t434 _ ?side1 ?side2 ?side3 ?side4 ?side5 ?side6 A49.out).mono ?_
              (case side1 => exact (Kd.R_reads' HO_3.out).2.2)
              (case side2 => exact (Kd.R_reads' HO_3.out).2.1)
              (case side3 => exact (Kd.R_reads' HX2.out).2.2)
              (case side4 => exact (Kd.R_reads' HX2.out).2.1)
              (case side5 => exact HR433.out)
              (case side6 => exact HC433.out)
              rintro e wz7 ⟨rfl, hb⟩
              refine ⟨_, rfl, ?_⟩
              replace HO_3 := Aside0.mk (Kd.R_below HO_3.out hb)
              replace HO_4 := Aside0.mk (Kd.R_below HO_4.out hb)
              replace HO_5 := Aside0.mk (Kd.R_below HO_5.out hb)
              replace HX1 := Aside0.mk (Kd.R_below HX1.out hb)
              replace HX2 := Aside0.mk (Kd.R_below HX2.out hb)
              replace HR425 := Aside0.mk (Kd.C_below HR425.out hb)
              replace HR433 := Aside0.mk (Kd.C_below HR433.out hb)
              replace HB := Aside0.mk (below_step HB.out hb)
              replace HS_ := (show _ ∧ _ from ⟨(hb.cell (World.block_lt_of_cell? _ _ HS_.1)).trans HS_.1, (hb.cell (World.block_lt_of_cell? _ _ HS_.2)).trans HS_.2⟩)
              clear hb
              refine hK.out _ _ HS_ (fun hHeld => ?_)
              clear hK K
              refine nm_ 99 ?_
              exact norm_ (by simp only [putAll, Act.put, Z1, Z2, Z3]) (hCont (.slice Ab1 y419.length cb1, .slice Ab2 y427.length cb2) _ ⟨HS_, HO_3.out, HO_4.out, HO_5.out, HB.out⟩)
            ·
             skip
             refine Kd.R_lit_step (Kd.int .i64) _ 3 ?hg (N := 93) ?hd (xs := ([1000] : List Int)) (inner := [.int .i64 1000]) (ok := fun _ => True) (okp := fun _ => True) ?hr ?hp (fun _ hk => hk) trivial (Below.refl _ _) (Nat.le_refl _) (by simp) ?_; (case hd => rfl); (case hg => rfl); (case hr => first | (go_simp; done) | (go_simp; rfl)); (case hp => exact (Reps.one (show Kd.M (Kd.int .i64) _ _ _ 1000 [.int .i64 1000] from rfl) (Reps.none _ _)))
             intro vb2 wz8 ho hb hg_ hnew_
             clear hg_ hnew_
             rw [← Ny427.out] at ho
             obtain ⟨Ab2, cb2, eb_⟩ := Kd.R_slice ho
             subst eb_
             replace HO_3 := Aside0.mk (Kd.R_below HO_3.out hb)
             replace HO_4 := Aside0.mk (Kd.R_below HO_4.out hb)
             replace HO_5 := Aside0.mk (Kd.R_below HO_5.out hb)
             replace HR425 := Aside0.mk (Kd.C_below HR425.out hb)
             replace HR433 := Aside0.mk (Kd.C_below HR433.out hb)
             replace HB := Aside0.mk (below_step HB.out hb)
             have HX2 := Aside0.mk ho
             clear ho
             replace HS_ := (show _ ∧ _ from ⟨(hb.cell (World.block_lt_of_cell? _ _ HS_.1)).trans HS_.1, (hb.cell (World.block_lt_of_cell? _ _ HS_.2)).trans HS_.2⟩)
             clear hb
             refine hK.out _ _ HS_ (fun hHeld => ?_)
             clear hK K
             refine nm_ 93 ?_
             refine one_ (i := 11) (N := some 85) (bv 28 33423359) rfl rfl (one_of HT_.out (by kernel_rfl)) (by decide) (fun K hK => ?_)
             refine Kd.R_lit_step (Kd.int .i64) _ 3 ?hg (N := 85) ?hd (xs := ([1000] : List Int)) (inner := [.int .i64 1000]) (ok := fun _ => True) (okp := fun _ => True) ?hr ?hp (fun _ hk => hk) trivial (Below.refl _ _) (Nat.le_refl _) (by simp) ?_; (case hd => rfl); (case hg => rfl); (case hr => first | (go_simp; done) | (go_simp; rfl)); (case hp => exact (Reps.one (show Kd.M (Kd.int .i64) _ _ _ 1000 [.int .i64 1000] from rfl) (Reps.none _ _)))
             intro vb1 wz9 ho hb hg_ hnew_
             clear hg_ hnew_
             rw [← Ny419.out] at ho
             obtain ⟨Ab1, cb1, eb_⟩ := Kd.R_slice ho
             subst eb_
             replace HO_3 := Aside0.mk (Kd.R_below HO_3.out hb)
             replace HO_4 := Aside0.mk (Kd.R_below HO_4.out hb)
             replace HO_5 := Aside0.mk (Kd.R_below HO_5.out hb)
             replace HX2 := Aside0.mk (Kd.R_below HX2.out hb)
             replace HR425 := Aside0.mk (Kd.C_below HR425.out hb)
             replace HR433 := Aside0.mk (Kd.C_below HR433.out hb)
             replace HB := Aside0.mk (below_step HB.out hb)
             have HX1 := Aside0.mk ho
             clear ho
             replace HS_ := (show _ ∧ _ from ⟨(hb.cell (World.block_lt_of_cell? _ _ HS_.1)).trans HS_.1, (hb.cell (World.block_lt_of_cell? _ _ HS_.2)).trans HS_.2⟩)
             clear hb
             refine hK.out _ _ HS_ (fun hHeld => ?_)
             clear hK K
             refine nm_ 85 ?_
             refine one_ (i := 17) (N := some 91) (bv 28 33554431) rfl rfl (one_of HT_.out (by kernel_rfl)) (by decide) (fun K hK => ?_)
             refine goes_ Try.func16 (by kernel_rfl) rfl #[.slice Ao15 t397.length co15, .slice Ab1 y419.length cb1, .slice A52 y422.length c52] (by rfl) rfl rfl (by (try simp only [List.map_toArray, List.map_cons, List.map_nil]); first | done | rfl | (simp only [List.length_drop, List.length_take]; rfl)) ?_
             with_reducible refine (impl_TurnedAway.calls k3 _ _ t397 _ _ y419 _ _ y422 t426 _ ?side1 ?side2 ?side3 ?side4 ?side5 ?side6 A45.out).mono ?_
             (case side1 => exact (Kd.R_reads' HO_3.out).2.2)
             (case side2 => exact (Kd.R_reads' HO_3.out).2.1)
             (case side3 => exact (Kd.R_reads' HX1.out).2.2)
             (case side4 => exact (Kd.R_reads' HX1.out).2.1)
             (case side5 => exact HR425.out)
             (case side6 => exact HC425.out)
             rintro e wz10 ⟨rfl, hb⟩
             refine ⟨_, rfl, ?_⟩
             replace HO_3 := Aside0.mk (Kd.R_below HO_3.out hb)
             replace HO_4 := Aside0.mk (Kd.R_below HO_4.out hb)
             replace HO_5 := Aside0.mk (Kd.R_below HO_5.out hb)
             replace HX2 := Aside0.mk (Kd.R_below HX2.out hb)
             replace HX1 := Aside0.mk (Kd.R_below HX1.out hb)
             replace HR425 := Aside0.mk (Kd.C_below HR425.out hb)
             replace HR433 := Aside0.mk (Kd.C_below HR433.out hb)
             replace HB := Aside0.mk (below_step HB.out hb)
             replace HS_ := (show _ ∧ _ from ⟨(hb.cell (World.block_lt_of_cell? _ _ HS_.1)).trans HS_.1, (hb.cell (World.block_lt_of_cell? _ _ HS_.2)).trans HS_.2⟩)
             clear hb
             refine hK.out _ _ HS_ (fun hHeld => ?_)
             clear hK K
             refine nm_ 91 ?_
             refine one_ (i := 25) (N := some 99) (bv 28 67108863) rfl rfl (one_of HT_.out (by kernel_rfl)) (by decide) (fun K hK => ?_)
             refine goes_ Try.func16 (by kernel_rfl) rfl #[.slice Ao15 t397.length co15, .slice Ab2 y427.length cb2, .slice A53 y430.length c53] (by rfl) rfl rfl (by (try simp only [List.map_toArray, List.map_cons, List.map_nil]); first | done | rfl | (simp only [List.length_drop, List.length_take]; rfl)) ?_
             with_reducible refine (impl_TurnedAway.calls k3 _ _ t397 _ _ y427 _ _ y430 t434 _ ?side1 ?side2 ?side3 ?side4 ?side5 ?side6 A49.out).mono ?_
             (case side1 => exact (Kd.R_reads' HO_3.out).2.2)
             (case side2 => exact (Kd.R_reads' HO_3.out).2.1)
             (case side3 => exact (Kd.R_reads' HX2.out).2.2)
             (case side4 => exact (Kd.R_reads' HX2.out).2.1)
             (case side5 => exact HR433.out)
             (case side6 => exact HC433.out)
             rintro e wz11 ⟨rfl, hb⟩
             refine ⟨_, rfl, ?_⟩
             replace HO_3 := Aside0.mk (Kd.R_below HO_3.out hb)
             replace HO_4 := Aside0.mk (Kd.R_below HO_4.out hb)
             replace HO_5 := Aside0.mk (Kd.R_below HO_5.out hb)
             replace HX2 := Aside0.mk (Kd.R_below HX2.out hb)
             replace HX1 := Aside0.mk (Kd.R_below HX1.out hb)
             replace HR425 := Aside0.mk (Kd.C_below HR425.out hb)
             replace HR433 := Aside0.mk (Kd.C_below HR433.out hb)
             replace HB := Aside0.mk (below_step HB.out hb)
             replace HS_ := (show _ ∧ _ from ⟨(hb.cell (World.block_lt_of_cell? _ _ HS_.1)).trans HS_.1, (hb.cell (World.block_lt_of_cell? _ _ HS_.2)).trans HS_.2⟩)
             clear hb
             refine hK.out _ _ HS_ (fun hHeld => ?_)
             clear hK K
             refine nm_ 99 ?_
             exact norm_ (by simp only [putAll, Act.put, Z1, Z2, Z3]) (hCont (.slice Ab1 y419.length cb1, .slice Ab2 y427.length cb2) _ ⟨HS_, HO_3.out, HO_4.out, HO_5.out, HB.out⟩)
           case hcont =>
            rintro ⟨vb1, vb2⟩ w50 ⟨hS_, hr3_, hr4_, hr5_, hb_⟩
            clear HO_3 HO_4 HO_5 HB HR414 HR425 HR433 hx417_0 hx418_0 hHeld
            have HO_3 := Aside0.mk hr3_; have HO_4 := Aside0.mk hr4_; have HO_5 := Aside0.mk hr5_; have HB := Aside0.mk hb_
            clear hr3_ hr4_ hr5_ hb_ hS_
            refine norm_ (a' := ?_) ?_ ?_
            rotate_left
            ·
             simp only [putAll, Act.put, Z1, Z2, Z3]
             rfl
            refine pv_ 28 26 100 134217727 rfl rfl HT_ ?_
            refine pv_ 28 27 101 268435455 rfl rfl HT_ ?_
            refine done_ (done_of HT_.out (by kernel_rfl)) ?_
            try go_wp2
            all_goals (go_ret; exact ⟨by first | rfl | (simp [errW_none, errW_some] <;> rfl) | (simp [*, errW_none, errW_some] <;> rfl), by repeat (first | (with_reducible first | exact HB.out | apply below_alloc | apply pw_below_drewN | apply below_drew1) | exact HB.out)⟩)
        subst c29
        have H1 : (some false) = some r := by rw [if_pos rfl] at H; exact H
        clear H
        have H := H1
        clear H1
        obtain rfl := Option.some.inj H
        obtain ⟨Ao30, co30, eo30⟩ := Kd.R_slice HO_5.out
        subst eo30
        try go_wp2
        have n0_ := Aside0.mk (Kd.R_drew HO_3.out)
        have n1_ := Aside0.mk (Kd.R_drew HO_4.out)
        have n2_ := Aside0.mk (Kd.R_drew HO_5.out)
        have n3_ := Aside0.mk (below_drew1 HB.out)
        clear HO_3
        clear HO_4
        clear HO_5
        clear HB
        have HO_3 := n0_
        have HO_4 := n1_
        have HO_5 := n2_
        have HB := n3_
        clear n0_ n1_ n2_ n3_
        have q32 : (x9_2 : Int) ≤ ((t403.length : Int) : Int) := of_decide_eq_true (by first | (with_reducible assumption) | assumption)
        obtain ⟨i032, hi032, _, hsz32, _⟩ := info_parts info3
        have hroom32 : t403.length ≤ co30 := (Kd.R_reads' HO_5.out).2.1
        have hC32 : Kd.C (Kd.int .i64) _ Ao30 t403.length t403 := (Kd.R_reads' HO_5.out).2.2
        have hcut32 := cut_to (P := Try.prog) 23 3 .i64 Try.underlying23 hi032 Ao30 t403.length co30 x9_2 (of_decide_eq_true (by first | (with_reducible assumption) | assumption)) q32 hroom32
        have hr32 := Kd.C_take (m := (x9_2 : Int).toNat) hC32 (by omega)
        have hy32 : y411.length = (x9_2 : Int).toNat := (by rw [Ny411.out, List.length_take]; omega)
        rw [← Ny411.out] at hr32
        rw [← hy32] at hcut32
        have HR414 := Aside0.mk hr32
        have HC414 := Aside0.mk (show y411.length ≤ co30 from by omega)
        clear hr32 hC32 hroom32 hi032 hsz32
        have KY32 := Aside0.mk hy32
        clear hy32
        have KL32 := Aside0.mk (show (x9_2 : Int).toNat ≤ t403.length from by omega)
        replace q32 := eq_true q32
        have p415 : 0 ≤ (x9_2 : Int) := of_decide_eq_true (by first | (with_reducible assumption) | assumption)
        have q415 : x9_2 < (t403.length : Int) := of_decide_eq_true (by first | (with_reducible assumption) | assumption)
        obtain ⟨ad415, e415, hx415_0⟩ := Kd.at_int (Kd.R_reads' HO_5.out).2.2 x9_2 p415 q415
        cases e415
        replace p415 := eq_true p415
        replace q415 := eq_true q415
        refine start_ (n := 8) (S := fun w' => w'.cell? (ad415.add (x9_2).toNat) = some (.int .i64 (rd t403 x9_2))) (ds := []) (bv 8 0) (by kernel_rfl) rfl rfl (hx415_0) (fun hHeld => ?_); refine with_tabW laws_FnRooms.tab13 laws_FnRooms.bits13 (fun HT_ HW_ => ?_)
        generalize wr.drew = w31 at HO_3 HO_4 HO_5 HB HR414 hx415_0 hHeld ⊢
        refine pv_ 8 0 61 1 rfl rfl HT_ ?_; refine pv_ 8 1 62 3 rfl rfl HT_ ?_; refine pv_ 8 2 63 7 rfl rfl HT_ ?_; refine pv_ 8 3 64 15 rfl rfl HT_ ?_; refine pv_ 8 4 65 31 rfl rfl HT_ ?_; refine pv_ 8 5 66 63 rfl rfl HT_ ?_
        refine take_ (i := 6) (N := some 67) (v := ?_) (a' := ?_) (bv 8 127) rfl rfl (take_ofW HT_.out HW_.out (by kernel_rfl)) (fun _ _ _ h => h) (Or.inl ⟨by rfl, ?_⟩) hHeld ?_ ?_; rotate_left
        · intro w' s0
          go_simp
          all_goals (with_reducible rfl)
        rotate_left
        · simp only [Act.put, Z1, Z2, Z3, i64_w, i32_w]; rfl
        refine one_ (i := 7) (N := some 68) (bv 8 255) rfl rfl (one_of HT_.out (by kernel_rfl)) (by decide) (fun K hK => ?_)
        refine goes_ Try.func28 (by kernel_rfl) rfl #[.slice (some ad415) y411.length co30, .int .i64 (rd t403 x9_2)] (by rfl) rfl rfl (by (try simp only [List.map_toArray, List.map_cons, List.map_nil]); first | done | rfl | (simp only [List.length_drop, List.length_take]; rfl)) ?_
        with_reducible refine (laws_contains.calls k2 _ _ y411 (rd t403 x9_2) true _ ?side1 ?side2 A28.out).mono ?_
        (case side1 => repeat (first | exact (by repeat (first | (with_reducible exact HR414.out) | (with_reducible refine Kd.C_alloc ?_ _) | (with_reducible refine Kd.C_drewN ?_ _) | (with_reducible refine Kd.C_drew ?_) | exact HR414.out)) | (with_reducible refine Kd.C_alloc ?_ _) | (with_reducible refine Kd.C_drewN ?_ _) | (with_reducible refine Kd.C_drew ?_)))
        (case side2 => exact HC414.out)
        rintro e w' ⟨rfl, ⟨nd, rfl⟩⟩
        refine ⟨_, rfl, ?_⟩
        refine hK.out _ _ (hHeld) (fun hHeld => ?_)
        clear hK K
        refine nm_ 68 ?_
        refine done_ (done_of HT_.out (by kernel_rfl)) ?_
        try go_wp2
        all_goals (go_ret; exact ⟨by first | rfl | (simp [errW_none, errW_some] <;> rfl) | (simp [*, errW_none, errW_some] <;> rfl), by repeat (first | (with_reducible first | exact HB.out | apply below_alloc | apply pw_below_drewN | apply below_drew1) | exact HB.out)⟩)
     subst c24
     have H1 : (some false) = some r := by rw [if_pos rfl] at H; exact H
     clear H
     have H := H1
     clear H1
     obtain rfl := Option.some.inj H
     go_wp2
     all_goals (go_ret; exact ⟨by first | rfl | (simp [errW_none, errW_some] <;> rfl) | (simp [*, errW_none, errW_some] <;> rfl), by repeat (first | (with_reducible first | exact HB.out | apply below_alloc | apply pw_below_drewN | apply below_drew1) | exact HB.out)⟩)
  rw [if_pos c7] at H
  have c7b0 : (t404 != t408) = true := c7
  (try (have c7b1 : decide (t404 = t408) = false := by simpa using c7))
  (try (have c7b2 : (t404 == t408) = false := by simpa using c7))
  (try (have c7b3 : ¬ (t404 = t408) := by simpa using c7))
  clear c7
  obtain rfl := Option.some.inj H
  go_enter Try.func6, Try.ntmps6
  go_wp2_with (first | ((with_reducible refine gate_callee (f := 26) rfl ?_); refine goesL_ (some 17) rfl rfl Try.func26 (by kernel_rfl) rfl #[.slice A0 l0.length c0] rfl (by (try simp only [List.map_toArray, List.map_cons, List.map_nil]); first | done | rfl | (simp only [List.length_drop, List.length_take]; rfl)) ?_; (with_reducible refine (laws_big.calls _ _ l0 false _ ?side1 ?side2 A2.out).mono ?_); (case side1 => repeat (first | exact HR0.out | (with_reducible refine Kd.C_alloc ?_ _) | (with_reducible refine Kd.C_drewN ?_ _) | (with_reducible refine Kd.C_drew ?_))); (case side2 => exact HC0.out); rintro e w' ⟨rfl, ⟨nd, rfl⟩⟩; refine ⟨_, rfl, ?_⟩) | ((with_reducible refine gate_callee (f := 27) rfl ?_); refine goesL_ (some 20) rfl rfl Try.func27 (by kernel_rfl) rfl #[.slice A0 l0.length c0] rfl (by (try simp only [List.map_toArray, List.map_cons, List.map_nil]); first | done | rfl | (simp only [List.length_drop, List.length_take]; rfl)) ?_; (with_reducible refine (spec_DrawAssignRooms.calls k _ _ l0 t397 t398 _ ?side1 ?side2 A4.out).mono ?_); (case side1 => repeat (first | exact HR0.out | (with_reducible refine Kd.C_alloc ?_ _) | (with_reducible refine Kd.C_drewN ?_ _) | (with_reducible refine Kd.C_drew ?_))); (case side2 => exact HC0.out); rintro e w8 ⟨v399, v401, rfl, ho0, ho1, hb⟩; refine ⟨_, rfl, ?_⟩; have n0_ := Aside0.mk (Kd.R_lower ho0 (below_size (by repeat (first | (with_reducible first | exact HB.out | apply below_alloc | apply pw_below_drewN | apply below_drew1) | exact HB.out)))); have n1_ := Aside0.mk (Kd.R_lower ho1 (below_size (by repeat (first | (with_reducible first | exact HB.out | apply below_alloc | apply pw_below_drewN | apply below_drew1) | exact HB.out)))); have n2_ := Aside0.mk (below_step (by repeat (first | (with_reducible first | exact HB.out | apply below_alloc | apply pw_below_drewN | apply below_drew1) | exact HB.out)) hb); clear HB; have HO400 := n0_; have HO402 := n1_; have HB := n2_; clear n0_ n1_ n2_; (try clear hb); (try clear hb2); (try clear hk); (try clear hi); (try clear ho0); (try clear ho1); obtain ⟨Ao9, co9, eo9⟩ := Kd.R_slice HO400.out; subst eo9; obtain ⟨Ao10, co10, eo10⟩ := Kd.R_slice HO402.out; subst eo10) | ((with_reducible refine gate_callee (f := 22) rfl ?_); refine goesL_ (some 26) rfl rfl Try.func22 (by kernel_rfl) rfl #[.slice Ao9 t397.length co9, .slice Ao10 t398.length co10] rfl (by (try simp only [List.map_toArray, List.map_cons, List.map_nil]); first | done | rfl | (simp only [List.length_drop, List.length_take]; rfl)) ?_; (with_reducible refine (impl_AssignRooms.calls k _ _ t397 _ _ t398 t403 t404 _ ?side1 ?side2 ?side3 ?side4 A5.out).mono ?_); (case side1 => repeat (first | exact (Kd.R_reads' HO400.out).2.2 | (with_reducible refine Kd.C_alloc ?_ _) | (with_reducible refine Kd.C_drewN ?_ _) | (with_reducible refine Kd.C_drew ?_))); (case side2 => exact (Kd.R_reads' HO400.out).2.1); (case side3 => repeat (first | exact (Kd.R_reads' HO402.out).2.2 | (with_reducible refine Kd.C_alloc ?_ _) | (with_reducible refine Kd.C_drewN ?_ _) | (with_reducible refine Kd.C_drew ?_))); (case side4 => exact (Kd.R_reads' HO402.out).2.1); rintro e w11 ⟨v405, rfl, ho0, hb⟩; refine ⟨_, rfl, ?_⟩; have n0_ := Aside0.mk (Kd.R_below (by (with_reducible repeat (first | apply Kd.R_alloc | apply Kd.R_drewN | apply Kd.R_drew)); exact HO400.out) hb); have n1_ := Aside0.mk (Kd.R_elder' (by (with_reducible repeat (first | apply Kd.R_alloc | apply Kd.R_drewN | apply Kd.R_drew)); exact HO402.out) (Kd.R_base ho0) hb); have n2_ := Aside0.mk (Kd.R_lower (Kd.R_new' ho0 (Kd.R_lt (by (with_reducible repeat (first | apply Kd.R_alloc | apply Kd.R_drewN | apply Kd.R_drew)); exact HO402.out))) (below_size (by repeat (first | (with_reducible first | exact HB.out | apply below_alloc | apply pw_below_drewN | apply below_drew1) | exact HB.out)))); have n3_ := Aside0.mk (below_step (by repeat (first | (with_reducible first | exact HB.out | apply below_alloc | apply pw_below_drewN | apply below_drew1) | exact HB.out)) hb); clear HO400; clear HO402; clear HB; have HO400 := n0_; have HO402 := n1_; have HO406 := n2_; have HB := n3_; clear n0_ n1_ n2_ n3_; (try clear hb); (try clear hb2); (try clear hk); (try clear hi); (try clear ho0)) | ((with_reducible refine gate_callee (f := 21) rfl ?_); refine goesL_ (some 32) rfl rfl Try.func21 (by kernel_rfl) rfl #[.slice Ao9 t397.length co9, .slice Ao10 t398.length co10] rfl (by (try simp only [List.map_toArray, List.map_cons, List.map_nil]); first | done | rfl | (simp only [List.length_drop, List.length_take]; rfl)) ?_; (with_reducible refine (spec_AssignRooms.calls k _ _ t397 _ _ t398 t407 t408 _ ?side1 ?side2 ?side3 ?side4 A6.out).mono ?_); (case side1 => repeat (first | exact (Kd.R_reads' HO400.out).2.2 | (with_reducible refine Kd.C_alloc ?_ _) | (with_reducible refine Kd.C_drewN ?_ _) | (with_reducible refine Kd.C_drew ?_))); (case side2 => exact (Kd.R_reads' HO400.out).2.1); (case side3 => repeat (first | exact (Kd.R_reads' HO402.out).2.2 | (with_reducible refine Kd.C_alloc ?_ _) | (with_reducible refine Kd.C_drewN ?_ _) | (with_reducible refine Kd.C_drew ?_))); (case side4 => exact (Kd.R_reads' HO402.out).2.1); rintro e w12 ⟨v409, rfl, ho0, hb⟩; refine ⟨_, rfl, ?_⟩; have n0_ := Aside0.mk (Kd.R_below (by (with_reducible repeat (first | apply Kd.R_alloc | apply Kd.R_drewN | apply Kd.R_drew)); exact HO400.out) hb); have n1_ := Aside0.mk (Kd.R_elder' (by (with_reducible repeat (first | apply Kd.R_alloc | apply Kd.R_drewN | apply Kd.R_drew)); exact HO402.out) (Kd.R_base ho0) hb); have n2_ := Aside0.mk (Kd.R_elder' (by (with_reducible repeat (first | apply Kd.R_alloc | apply Kd.R_drewN | apply Kd.R_drew)); exact HO406.out) (Kd.R_base ho0) hb); have n3_ := Aside0.mk (Kd.R_lower (Kd.R_new' (Kd.R_new' ho0 (Kd.R_lt (by (with_reducible repeat (first | apply Kd.R_alloc | apply Kd.R_drewN | apply Kd.R_drew)); exact HO402.out))) (Kd.R_lt (by (with_reducible repeat (first | apply Kd.R_alloc | apply Kd.R_drewN | apply Kd.R_drew)); exact HO406.out))) (below_size (by repeat (first | (with_reducible first | exact HB.out | apply below_alloc | apply pw_below_drewN | apply below_drew1) | exact HB.out)))); have n4_ := Aside0.mk (below_step (by repeat (first | (with_reducible first | exact HB.out | apply below_alloc | apply pw_below_drewN | apply below_drew1) | exact HB.out)) hb); clear HO400; clear HO402; clear HO406; clear HB; have HO400 := n0_; have HO402 := n1_; have HO406 := n2_; have HO410 := n3_; have HB := n4_; clear n0_ n1_ n2_ n3_ n4_; (try clear hb); (try clear hb2); (try clear hk); (try clear hi); (try clear ho0)))
  all_goals (go_ret; exact ⟨by first | rfl | (simp [errW_none, errW_some] <;> rfl) | (simp [*, errW_none, errW_some] <;> rfl), by repeat (first | (with_reducible first | exact HB.out | apply below_alloc | apply pw_below_drewN | apply below_drew1) | exact HB.out)⟩)
 subst c3
 have H1 : (some true) = some r := by rw [if_pos rfl] at H; exact H
 clear H
 have H := H1
 clear H1
 obtain rfl := Option.some.inj H
 go_enter Try.func6, Try.ntmps6
 go_wp2_with (first | ((with_reducible refine gate_callee (f := 26) rfl ?_); refine goesL_ (some 17) rfl rfl Try.func26 (by kernel_rfl) rfl #[.slice A0 l0.length c0] rfl (by (try simp only [List.map_toArray, List.map_cons, List.map_nil]); first | done | rfl | (simp only [List.length_drop, List.length_take]; rfl)) ?_; (with_reducible refine (laws_big.calls _ _ l0 true _ ?side1 ?side2 A2.out).mono ?_); (case side1 => repeat (first | exact HR0.out | (with_reducible refine Kd.C_alloc ?_ _) | (with_reducible refine Kd.C_drewN ?_ _) | (with_reducible refine Kd.C_drew ?_))); (case side2 => exact HC0.out); rintro e w' ⟨rfl, ⟨nd, rfl⟩⟩; refine ⟨_, rfl, ?_⟩))
 all_goals (go_ret; exact ⟨by first | rfl | (simp [errW_none, errW_some] <;> rfl) | (simp [*, errW_none, errW_some] <;> rfl), by repeat (first | (with_reducible first | exact HB.out | apply below_alloc | apply pw_below_drewN | apply below_drew1) | exact HB.out)⟩)
def laws_FnRooms.Pure : Prop := ∀ (l0 : List Int), l0.length ≤ maxLen → l0.length * 1 ≤ 140737488351232 → (∀ x ∈ l0, (Lit.int .u8 x).wf = true) → ∃ k, laws_FnRooms.f k l0 = some true
end Go.Proofs.Ytadcndmhdbhfkaa.A
end
section
set_option linter.unusedVariables false
namespace Go.Proofs.Ytadcndmhdbhfkaa.Open
open Go.ChangeShapes Go.WideShapes Go.Deep Go.RowKit Go.Proofs.YtadcndmhdbhfkaaW.PrintWords
def Opn (P : Program) (t : TypeId) {α : Type} (d : Kd α) : Prop :=
  ∀ (H : Type) (enc : TypeId × Value → H) (w : World) (base : Nat) (spare : Nat → Bool) (held : Bool) (fuel : Nat) (cs : List Value) (y : DataW H × List MemPlace),
    DataW.trod enc P w base spare held fuel t cs = some y → ∃ x : α, d.K w x cs
def OpnL (P : Program) (fs : List Field) {α : Type} (d : Kd α) : Prop :=
  ∀ (H : Type) (enc : TypeId × Value → H) (w : World) (base : Nat) (spare : Nat → Bool) (held : Bool) (cs : List Value), cs.length = fs.length →
    (∀ (j : Nat) (f : Field) (c : Value), fs[j]? = some f → cs[j]? = some c → ∃ (n : Nat) (y : DataW H × List MemPlace), DataW.trod enc P w base spare held n f.type [c] = some y) → ∃ x : α, d.K w x cs
theorem opn_int {P : Program} {t : TypeId} {k : IntKind} (ht : P.underlying t = some (.int k)) : Opn P t (Kd.int k) := by
  intro H enc w base spare held fuel cs y h
  obtain ⟨n, rfl, _⟩ := DataW.trod_int ht h
  exact ⟨n, rfl⟩
theorem list_of {α : Type} {p : Nat → α → Prop} : ∀ n, (∀ i, i < n → ∃ x, p i x) → ∃ l : List α, l.length = n ∧ ∀ i x, l[i]? = some x → p i x
  | 0, _ => ⟨[], rfl, fun i x h => by simp at h⟩
  | n + 1, h => by
    obtain ⟨l, hl, hp⟩ := list_of n (fun i hi => h i (by omega))
    obtain ⟨x, hx⟩ := h n (by omega)
    refine ⟨l ++ [x], by simp [hl], fun i y hy => ?_⟩
    rcases Nat.lt_or_ge i l.length with hi | hi
    · rw [List.getElem?_append_left hi] at hy
      exact hp i y hy
    · have hi' : i = l.length := by
        have := (List.getElem?_eq_some_iff.1 hy).1
        rw [List.length_append, List.length_singleton] at this
        omega
      subst hi'
      have : x = y := by simpa using hy
      subst this
      rw [hl]
      exact hx
theorem opn_slice {P : Program} {t e : TypeId} {α : Type} {d : Kd α} (ht : P.underlying t = some (.slice e)) (hC : P.cellsOf e = d.sz) (he : Opn P e d) : Opn P t (Kd.slice e d) := by
  intro H enc w base spare held fuel cs y h
  rcases open_slice ht h with ⟨rfl, _⟩ | ⟨a, len, cap, m, n, D, Pl, rfl, hb, hl, hm, hmm, hx, hi⟩
  · exact ⟨[], none, 0, rfl, Nat.le_refl _, rfl, by simp, fun h => absurd h (by simp)⟩
  · have hlm : len ≤ m := by rw [hmm]; split <;> omega
    obtain ⟨xs, hxl, hp⟩ := list_of (p := fun i x => ∃ cs', w.cells? base (a.add (i * P.cellsOf e)) (P.cellsOf e) = some cs' ∧ d.K w x cs') len (fun i hil => by
      obtain ⟨cs', h1, h2⟩ := hi i (by omega)
      obtain ⟨x, hx⟩ := he H enc w base spare held n cs' _ h2
      exact ⟨x, cs', h1, hx⟩)
    refine ⟨xs, some a, cap, by rw [hxl], by omega, rfl, by unfold maxLen at hm; omega, fun _ => ⟨a, rfl, fun j p hj => ?_⟩⟩
    obtain ⟨cs', hc, hk⟩ := hp j p hj
    obtain ⟨_, hcl, hat⟩ := World.cells?_some hc
    refine ⟨cs', d.K_len hk, hk, fun i u hu => ?_⟩
    have hil : i < cs'.length := (List.getElem?_eq_some_iff.1 hu).1
    have := hat i (by omega)
    rw [Go.Deep.add_add, hC] at this
    rw [this]
    exact hu
theorem opened {H : Type} {enc : TypeId × Value → H} {P : Program} {W : World} {base : Nat} {spare : Nat → Bool} {held : Bool} {t e : TypeId} {α : Type} {d : Kd α} (h : Opn P t (Kd.slice e d)) {a : Option Addr} {len cap : Nat} {dd : DataW H} {ps : List MemPlace}
    (ht : DataW.Trod enc P W base spare held t (.slice a len cap) dd ps) : ∃ l : List α, l.length = len ∧ l.length ≤ cap ∧ d.C W a l.length l := by
  obtain ⟨fuel, hf⟩ := ht
  obtain ⟨l, A, c, he, hl, hc⟩ := h H enc W base spare held fuel _ _ hf
  simp [Value.cells] at he
  obtain ⟨rfl, rfl, rfl⟩ := he
  exact ⟨l, rfl, hl, hc⟩
end Go.Proofs.Ytadcndmhdbhfkaa.Open
end
section
namespace Go.Proofs.Ytadcndmhdbhfkaa.A
open Go.RowKit Go.Proofs.YtadcndmhdbhfkaaW.PrintWords Go.Proofs.YtadcndmhdbhfkaaW.PrintLast Go.Proofs.YtadcndmhdbhfkaaW.PrintMore
attribute [local go_sem] max2_int min2_int max_two min_two max_three min_three max_four min_four
set_option linter.unusedVariables false
set_option linter.unusedSimpArgs false
def laws_toRoom.f (a0_0 : Int) (a0_1 : Int) : Option (Int × Int) := some (a0_0, a0_1)
def laws_toRoomS.l0 : Nat → List (S77) → List (S73) → Int → Option ((List (S73)))
  | 0, _, _, _ => none
  | k + 1, x0, x3, x4 => if x4 < (x0.length : Int) then (if 0 ≤ x4 then ((laws_toRoom.f ((rd_T77 x0 x4).f0) ((rd_T77 x0 x4).f1)).bind fun bt122 => (if x4 < (x3.length : Int) then (laws_toRoomS.l0 k x0 (x3.set (x4 : Int).toNat (⟨bt122.1, bt122.2⟩ : S73)) (wrap64 (x4 + 1))) else (none))) else (none)) else (some x3)
def laws_toRoomS.f (k : Nat) (l0 : List (S77)) : Option ((List (S73))) := if 0 ≤ (l0.length : Int) then (if ((l0.length : Int) : Int).toNat ≤ 17592186044416 then (laws_toRoomS.l0 k l0 (List.replicate ((l0.length : Int) : Int).toNat z73) 0) else (none)) else (none)
def laws_eqRoom.f (a0_0 : Int) (a0_1 : Int) (a1_0 : Int) (a1_1 : Int) : Option (Bool) := if a0_0 = a1_0 then (if a0_1 = a1_1 then (some true) else (some false)) else (some false)
def laws_eqRoomS.l0 : Nat → List (S73) → List (S73) → Int → Option (Bool)
  | 0, _, _, _ => none
  | k + 1, x0, x1, x5 => if x5 < (x0.length : Int) then (if 0 ≤ x5 then (if x5 < (x1.length : Int) then ((laws_eqRoom.f ((rd_T73 x0 x5).f0) ((rd_T73 x0 x5).f1) ((rd_T73 x1 x5).f0) ((rd_T73 x1 x5).f1)).bind fun t140 => (if t140 = true then (laws_eqRoomS.l0 k x0 x1 (wrap64 (x5 + 1))) else (some false))) else (none)) else (none)) else (some true)
def laws_eqRoomS.f (k : Nat) (l0 : List (S73)) (l1 : List (S73)) : Option (Bool) := if (l0.length : Int) = (l1.length : Int) then (laws_eqRoomS.l0 k l0 l1 0) else (some false)
def laws_eqRoomS.T6 : Bool × List (List Nat × List Nat) := (true, [([], []), ([], []), ([0, 1], [0, 1]), ([2], [2]), ([], []), ([], []), ([4, 5], [4, 5]), ([6], [6]), ([3, 7], [3, 7]), ([8], [8])])
def laws_eqRoomS.B6 : List Nat := [0, 0, 3, 7, 0, 0, 48, 112, 255, 511]
def laws_szRoomS.f (l0 : List (S77)) (a1 : Int) : Option (Int) := if (wrap64 (a1 - (l0.length : Int))) < 0 then (some (-1)) else (some (wrap64 (a1 - (l0.length : Int))))
end Go.Proofs.Ytadcndmhdbhfkaa.A
end
section
set_option linter.unusedVariables false
set_option linter.unusedSimpArgs false
namespace Go.Proofs.Ytadcndmhdbhfkaa.L
open Go Go.RowKit Go.Proofs.Ytadcndmhdbhfkaa.A Go.Proofs.YtadcndmhdbhfkaaW.PrintWords
theorem rdRoom {l : List S73} {n : Nat} (h : n < l.length) : rd_T73 l (n : Int) = l[n] := by
  simp [rd_T73, h]
def cvRoom (x : S77) : S73 := ⟨x.f0, x.f1⟩
def roomsF (p : Int) : List S73 → Bool
  | [] => true
  | r :: l => inR r.f0 1 99 && decide (p < r.f0) && inR r.f1 1 1000 && roomsF r.f0 l
def okRooms (l : List S73) : Bool := roomsF 0 l && decide ((l.length : Int) ≤ 20)
theorem sAreRooms_l0 (l : List S73) (hl : l.length ≤ 1099511627776) : ∀ (d n : Nat) (p : Int), n + d = l.length → (n = 0 → p = 0) → (∀ h : 0 < n ∧ n ≤ l.length, p = (l[n - 1]'(by omega)).f0) → Ev (fun k => spec_AreRooms.l0 k l (n : Int)) (roomsF p (l.drop n) && decide ((l.length : Int) ≤ 20)) := by
  intro d
  induction d with
  | zero =>
    intro n p hd hp0 hp
    refine Ev.step (fun k => spec_AreRooms.l0.eq_2 ..) ?_
    refine Ev.neg (by omega) (Ev.some_ ?_)
    rw [List.drop_eq_nil_of_le (by omega)]
    simp [roomsF]
  | succ d ih =>
    intro n p hd hp0 hp
    refine Ev.step (fun k => spec_AreRooms.l0.eq_2 ..) ?_
    refine Ev.pos (by omega) (Ev.pos (by omega) ?_)
    simp only [w64s (show n < 4611686018427387904 by omega), rdRoom (show n < l.length by omega), l1In_eq, Option.bind_some]
    have h1 := ih (n + 1) (l[n]).f0 (by omega) (by omega) (fun h => by simp)
    rw [List.drop_eq_getElem_cons (show n < l.length by omega)]
    generalize l.drop (n + 1) = u at h1 ⊢
    refine Ev.ite (fun h => Ev.ite (fun h' => Ev.ite (fun h2 => ?_) (fun h2 => Ev.cast h1 ?_)) (fun h' => Ev.some_ ?_)) (fun h => Ev.some_ ?_)
    · obtain ⟨m, rfl⟩ : ∃ m, n = m + 1 := ⟨n - 1, by omega⟩
      simp only [w64p (show m < 4611686018427387904 by omega), rdRoom (show m < l.length by omega)]
      have hp' : p = l[m].f0 := hp ⟨by omega, by omega⟩
      refine Ev.pos (by omega) (Ev.pos (by omega) (Ev.ite (fun h3 => Ev.some_ ?_) (fun h3 => Ev.cast h1 ?_)))
      · have : ¬ p < l[m + 1].f0 := by omega
        simp [roomsF, this]
      · have : p < l[m + 1].f0 := by omega
        simp [roomsF, this, h, h']
    · have h0 : n = 0 := by omega
      have := inR_iff.1 h
      have : p < l[n].f0 := by rw [hp0 h0]; omega
      simp [roomsF, h, h', this]
    · simp [roomsF, h']
    · simp [roomsF, h]
theorem sAreRooms_ev (l : List S73) (hl : l.length ≤ 1099511627776) : Ev (fun k => spec_AreRooms.f k l) (okRooms l) := by
  unfold spec_AreRooms.f
  exact Ev.cast (sAreRooms_l0 l hl l.length 0 0 (by omega) (fun _ => rfl) (fun h => by omega)) (by simp [okRooms])
theorem iAreRooms_l0 (l : List S73) (hl : l.length ≤ 1099511627776) : ∀ (d n : Nat) (p : Int), n + d = l.length → (n = 0 → p = 0) → (∀ h : 0 < n ∧ n ≤ l.length, p = (l[n - 1]'(by omega)).f0) → Ev (fun k => impl_AreRooms.l0 k l l (l.length : Int) (n : Int)) (roomsF p (l.drop n)) := by
  intro d
  induction d with
  | zero =>
    intro n p hd hp0 hp
    refine Ev.step (fun k => impl_AreRooms.l0.eq_2 ..) ?_
    refine Ev.neg (by omega) (Ev.some_ ?_)
    rw [List.drop_eq_nil_of_le (by omega)]
    simp [roomsF]
  | succ d ih =>
    intro n p hd hp0 hp
    refine Ev.step (fun k => impl_AreRooms.l0.eq_2 ..) ?_
    refine Ev.pos (by omega) (Ev.pos (by omega) (Ev.pos (by omega) ?_))
    simp only [w64s (show n < 4611686018427387904 by omega), rdRoom (show n < l.length by omega), InRange_eq, Option.bind_some]
    have h1 := ih (n + 1) (l[n]).f0 (by omega) (by omega) (fun h => by simp)
    rw [List.drop_eq_getElem_cons (show n < l.length by omega)]
    generalize l.drop (n + 1) = u at h1 ⊢
    refine Ev.ite (fun h => Ev.ite (fun h2 => ?_) (fun h2 => Ev.ite (fun h' => Ev.cast h1 ?_) (fun h' => Ev.some_ ?_))) (fun h => Ev.some_ ?_)
    · obtain ⟨m, rfl⟩ : ∃ m, n = m + 1 := ⟨n - 1, by omega⟩
      simp only [w64p (show m < 4611686018427387904 by omega), rdRoom (show m < l.length by omega)]
      have hp' : p = l[m].f0 := hp ⟨by omega, by omega⟩
      refine Ev.pos (by omega) (Ev.pos (by omega) (Ev.ite (fun h3 => Ev.some_ ?_) (fun h3 => Ev.ite (fun h' => Ev.cast h1 ?_) (fun h' => Ev.some_ ?_))))
      · have : ¬ p < l[m + 1].f0 := by omega
        simp [roomsF, this]
      · have : p < l[m + 1].f0 := by omega
        simp [roomsF, this, h, h']
      · simp [roomsF, h']
    · have h0 : n = 0 := by omega
      have := inR_iff.1 h
      have : p < l[n].f0 := by rw [hp0 h0]; omega
      simp [roomsF, h, h', this]
    · simp [roomsF, h']
    · simp [roomsF, h]
theorem iAreRooms_ev (l : List S73) (hl : l.length ≤ 1099511627776) : Ev (fun k => impl_AreRooms.f k l) (okRooms l) := by
  unfold impl_AreRooms.f
  refine Ev.ite (fun h => Ev.some_ ?_) (fun h => Ev.cast (iAreRooms_l0 l hl l.length 0 0 (by omega) (fun _ => rfl) (fun h => by omega)) ?_)
  · have : ¬ (l.length : Int) ≤ 20 := by omega
    simp [okRooms, this]
  · have : (l.length : Int) ≤ 20 := by omega
    simp [okRooms, this]
theorem roomsF_mem : ∀ (l : List S73) (p : Int), roomsF p l = true → ∀ r ∈ l, p < r.f0 ∧ 1 ≤ r.f0 ∧ r.f0 ≤ 99 ∧ 1 ≤ r.f1 ∧ r.f1 ≤ 1000
  | [], _, _, r, hr => by cases hr
  | x :: l, p, h, r, hr => by
    simp only [roomsF, Bool.and_eq_true, decide_eq_true_eq, inR_iff] at h
    obtain ⟨⟨⟨h0, h1⟩, h2⟩, h3⟩ := h
    rcases List.mem_cons.1 hr with rfl | hr
    · omega
    · have := roomsF_mem l x.f0 h3 r hr
      omega
end Go.Proofs.Ytadcndmhdbhfkaa.L
end
section
set_option linter.unusedVariables false
set_option linter.unusedSimpArgs false
namespace Go.Proofs.Ytadcndmhdbhfkaa.L
open Go Go.Sort
section
variable {α : Type} [Inhabited α]
theorem g_swp_at (d : Array α) (j p : Nat) (h : j + 1 < d.size) (hp : p < j) : (swp d (j + 1) j)[p]! = d[p]! := by
  rw [swp_get d h (by omega) p, if_neg (by omega), if_neg (by omega)]
theorem g_swp_j (d : Array α) (j : Nat) (h : j + 1 < d.size) : (swp d (j + 1) j)[j]! = d[j + 1]! := by
  rw [swp_get d h (by omega) j, if_pos rfl]
theorem g_inner_congr {lt lt' : α → α → Bool} : ∀ (j : Nat) (d : Array α), j < d.size → (∀ p, p < j → lt d[j]! d[p]! = lt' d[j]! d[p]!) → insInner lt 0 j d = insInner lt' 0 j d
  | 0, d, _, _ => rfl
  | j + 1, d, hj, h => by
    rw [insInner, insInner, h j (by omega)]
    have := g_inner_congr (lt := lt) (lt' := lt') j (swp d (j + 1) j) (by rw [size_swp]; omega) (fun p hp => by rw [g_swp_j d j hj, g_swp_at d j p hj hp]; exact h p (by omega))
    rw [this]
theorem g_inner_perm (lt : α → α → Bool) (b : Nat) : ∀ (j : Nat) (d : Array α), j < b → b ≤ d.size → PermIn 0 b d (insInner lt 0 j d)
  | 0, d, _, _ => permIn_refl _ _ _
  | j + 1, d, hj, hb => by
    rw [insInner]
    split
    · exact permIn_trans _ _ _ _ _ (swp_permIn d 0 b (j + 1) j (Nat.zero_le _) hj (Nat.zero_le _) (by omega) hb) (g_inner_perm lt b j _ (by omega) (by rw [size_swp]; exact hb))
    · exact permIn_refl _ _ _
theorem g_outer_congr {lt lt' : α → α → Bool} (b : Nat) : ∀ (m i : Nat) (d : Array α), b - i = m → b ≤ d.size → (∀ q, i ≤ q → q < b → ∀ p, p < q → lt d[q]! d[p]! = lt' d[q]! d[p]!) → insOuter lt 0 b i d = insOuter lt' 0 b i d
  | 0, i, d, hm, hb, h => by
    rw [insOuter, if_neg (by omega), insOuter, if_neg (by omega)]
  | m + 1, i, d, hm, hb, h => by
    have hi : i < b := by omega
    rw [insOuter, if_pos hi]
    conv => rhs; rw [insOuter, if_pos hi]
    rw [← g_inner_congr (lt := lt) (lt' := lt') i d (by omega) (h i (Nat.le_refl _) hi)]
    have hP := g_inner_perm lt (i + 1) i d (by omega) (by omega)
    refine g_outer_congr b m (i + 1) _ (by omega) (by rw [hP.1]; exact hb) (fun q h1 h2 p hp => ?_)
    rw [hP.2.1 q (by omega)]
    by_cases hpi : i + 1 ≤ p
    · rw [hP.2.1 p (by omega)]
      exact h q (by omega) h2 p hp
    · exact permIn_all d _ 0 (i + 1) (fun x => lt d[q]! x = lt' d[q]! x) (by omega) hP (fun p' _ h3 => h q (by omega) h2 p' (by omega)) p (Nat.zero_le _) (by omega)
theorem g_sort_congr {lt lt' : α → α → Bool} (d : Array α) (h : ∀ q, q < d.size → ∀ p, p < q → lt d[q]! d[p]! = lt' d[q]! d[p]!) : insertionSort lt d 0 d.size = insertionSort lt' d 0 d.size :=
  g_outer_congr d.size _ 1 d rfl (Nat.le_refl _) (fun q _ h2 p hp => h q h2 p hp)
theorem g_stable {lt lt' : α → α → Bool} (hS : SWO lt') (d : Array α) (h : ∀ q, q < d.size → ∀ p, p < q → lt d[q]! d[p]! = lt' d[q]! d[p]!) : (insertionSort lt d 0 d.size).size = d.size ∧ (insertionSort lt d 0 d.size).toList.Perm d.toList ∧ (insertionSort lt d 0 d.size).toList.Pairwise (fun x y => lt' y x = false) := by
  rw [g_sort_congr d h]
  have hh := insertionSort_holds hS d 0 d.size (Nat.zero_le _) (Nat.le_refl _)
  generalize insertionSort lt' d 0 d.size = D at hh ⊢
  refine ⟨hh.1.1, ?_, ?_⟩
  · have h2 := hh.1.2.2
    have e1 : D.extract 0 d.size = D := by rw [← hh.1.1]; simp
    have e2 : d.extract 0 d.size = d := by simp
    rw [e1, e2] at h2
    exact h2
  · rw [List.pairwise_iff_getElem]
    intro i j hi hj hij
    have := hh.2 i j (Nat.zero_le _) hij (by rw [← hh.1.1]; simpa using hj)
    simp only [Array.length_toList] at hi hj
    rw [getElem!_pos D j hj, getElem!_pos D i hi] at this
    simpa using this
end
end Go.Proofs.Ytadcndmhdbhfkaa.L
end
section
set_option linter.unusedVariables false
set_option linter.unusedSimpArgs false
namespace Go.Proofs.Ytadcndmhdbhfkaa.L
open Go Go.RowKit Go.Proofs.Ytadcndmhdbhfkaa.A Go.Proofs.YtadcndmhdbhfkaaW.PrintWords Go.Sort
def BetH (h : List Int) (i j : Nat) : Prop := rd h (j : Int) < rd h (i : Int) ∨ rd h (j : Int) = rd h (i : Int) ∧ i < j
structure OrdOk (h o : List Int) : Prop where
  len : o.length = h.length
  val : ∀ i, i < h.length → ∃ v, v < h.length ∧ rd o (i : Int) = (v : Nat)
  all : ∀ v, v < h.length → ∃ i, i < h.length ∧ rd o (i : Int) = (v : Nat)
  srt : ∀ i j u v : Nat, i < j → j < h.length → rd o (i : Int) = (u : Nat) → rd o (j : Int) = (v : Nat) → BetH h u v
theorem cmpC_neg' (x y : Int) : cmpC x y < 0 ↔ x < y := by
  unfold cmpC
  split
  · omega
  · split <;> omega
def rH (h : List Int) {m : Nat} (x y : Fin (m + 1)) : Bool := decide (rd h ((y.val : Nat) : Int) < rd h ((x.val : Nat) : Int) ∨ rd h ((y.val : Nat) : Int) = rd h ((x.val : Nat) : Int) ∧ x.val < y.val)
theorem swo_rH (h : List Int) (m : Nat) : SWO (rH h (m := m)) where
  irrefl x := by simp [rH]
  trans x y z h1 h2 := by
    simp only [rH, decide_eq_true_eq] at *
    omega
  ntrans x y z h1 h2 := by
    simp only [rH, decide_eq_false_iff_not] at *
    omega
theorem ofFn_at {m : Nat} (q : Nat) (hq : q < m + 1) : (Array.ofFn fun i : Fin (m + 1) => i)[q]! = ⟨q, hq⟩ := by
  rw [getElem!_pos _ q (by simp; exact hq)]
  simp
theorem ordH_ok (h : List Int) {m : Nat} (hm : h.length = m + 1) : OrdOk h (ordH h hm) := by
  have hst := g_stable (lt := ltOf (cfH h hm)) (swo_rH h m) (Array.ofFn fun i : Fin (m + 1) => i) (fun q hq p hp => by
    have hq' : q < m + 1 := by simpa using hq
    rw [ofFn_at q hq', ofFn_at p (by omega)]
    unfold ltOf cfH rH
    rw [decide_eq_decide, cmpC_neg', rd_at (show q < h.length by omega), rd_at (show p < h.length by omega)]
    have : ¬ q < p := by omega
    simp [this])
  obtain ⟨h1, h2, h3⟩ := hst
  have he : ordH h hm = (insertionSort (ltOf (cfH h hm)) (Array.ofFn fun i : Fin (m + 1) => i) 0 (Array.ofFn fun i : Fin (m + 1) => i).size).toList.map fun x => ((x.val : Nat) : Int) := rfl
  generalize hDD : insertionSort (ltOf (cfH h hm)) (Array.ofFn fun i : Fin (m + 1) => i) 0 (Array.ofFn fun i : Fin (m + 1) => i).size = D at h1 h2 h3 he
  rw [he]
  have hsz : D.toList.length = m + 1 := by rw [Array.length_toList, h1]; simp
  have hnd : D.toList.Nodup := h2.nodup_iff.2 (by
    rw [List.nodup_iff_pairwise_ne, List.pairwise_iff_getElem]
    intro i j hi hj hij
    simp only [Array.toList_ofFn, List.getElem_ofFn]
    intro e
    have := congrArg Fin.val e
    simp at this
    omega)
  have hmem : ∀ x : Fin (m + 1), x ∈ D.toList := fun x => h2.mem_iff.2 (by
    simp only [Array.toList_ofFn, List.mem_ofFn]
    exact ⟨x, rfl⟩)
  generalize D.toList = L at h3 hsz hnd hmem
  have hrd : ∀ i (hi : i < L.length), rd (L.map fun x => ((x.val : Nat) : Int)) (i : Int) = ((L[i].val : Nat) : Int) := fun i hi => by
    rw [rd_at (by simpa using hi)]
    simp
  refine ⟨by simp [hsz, hm], fun i hi => ⟨(L[i]'(by omega)).val, by rw [hm]; exact (L[i]'(by omega)).isLt, hrd i (by omega)⟩, fun v hv => ?_, fun i j u v hij hj hu hv => ?_⟩
  · obtain ⟨i, hi, e⟩ := List.getElem_of_mem (hmem ⟨v, by omega⟩)
    refine ⟨i, by omega, ?_⟩
    rw [hrd i hi, e]
  · rw [hrd i (by omega)] at hu
    rw [hrd j (by omega)] at hv
    have hp := List.pairwise_iff_getElem.1 h3 i j (by omega) (by omega) hij
    have hn := (List.nodup_iff_pairwise_ne.1 hnd)
    have hn := List.pairwise_iff_getElem.1 hn i j (by omega) (by omega) hij
    have hne : (L[i]'(by omega)).val ≠ (L[j]'(by omega)).val := fun e => hn (Fin.ext e)
    simp only [rH, decide_eq_false_iff_not] at hp
    unfold BetH
    have eu : (L[i]'(by omega)).val = u := by omega
    have ev : (L[j]'(by omega)).val = v := by omega
    rw [eu, ev] at hp
    omega
theorem ordL_ok (h : List Int) (h0 : 0 < h.length) : OrdOk h (ordL h) := by
  obtain ⟨m, hm⟩ : ∃ m, h.length = m + 1 := ⟨h.length - 1, by omega⟩
  rw [ordL_eq hm]
  exact ordH_ok h hm
abbrev RmA := S73
def BetR (x y : RmA) : Prop := y.f1 < x.f1 ∨ y.f1 = x.f1 ∧ x.f0 < y.f0
structure RmOk (l rm : List RmA) : Prop where
  perm : rm.Perm l
  srt : rm.Pairwise BetR
theorem roomsF_lt : ∀ (l : List RmA) (p : Int), roomsF p l = true → l.Pairwise (fun x y => x.f0 < y.f0)
  | [], _, _ => List.Pairwise.nil
  | x :: l, p, h => by
    simp only [roomsF, Bool.and_eq_true, decide_eq_true_eq, inR_iff] at h
    exact List.Pairwise.cons (fun r hr => (roomsF_mem l x.f0 h.2 r hr).1) (roomsF_lt l x.f0 h.2)
def rR (x y : RmA) : Bool := decide (y.f1 < x.f1 ∨ y.f1 = x.f1 ∧ x.f0 < y.f0)
theorem swo_rR : SWO rR where
  irrefl x := by simp [rR]
  trans x y z h1 h2 := by
    simp only [rR, decide_eq_true_eq] at *
    omega
  ntrans x y z h1 h2 := by
    simp only [rR, decide_eq_false_iff_not] at *
    omega
theorem srtR_ok (l : List RmA) (h : roomsF 0 l = true) : RmOk l (srtR l.toArray).toList := by
  have hlt := roomsF_lt l 0 h
  have hst := g_stable (lt := ltOf cfR) swo_rR l.toArray (fun q hq p hp => by
    have hq' : q < l.length := by simpa using hq
    have := List.pairwise_iff_getElem.1 hlt p q (by omega) hq' hp
    rw [getElem!_pos _ q hq, getElem!_pos _ p (by omega)]
    unfold ltOf cfR rR
    rw [decide_eq_decide, cmpC_neg']
    simp only [List.getElem_toArray]
    have h2 : ¬ (l[q]).f0 < (l[p]'(by omega)).f0 := by omega
    simp [h2])
  obtain ⟨h1, h2, h3⟩ := hst
  have he : srtR l.toArray = insertionSort (ltOf cfR) l.toArray 0 l.toArray.size := rfl
  rw [← he] at h1 h2 h3
  generalize (srtR l.toArray).toList = L at h2 h3 ⊢
  simp only at h2
  refine ⟨h2, ?_⟩
  have hnd : L.Pairwise (fun x y => x.f0 ≠ y.f0) := h2.symm.pairwise (hlt.imp (fun h => by omega)) (fun h => fun e => h e.symm)
  rw [List.pairwise_iff_getElem] at h3 hnd ⊢
  intro i j hi hj hij
  have a := h3 i j hi hj hij
  have b := hnd i j hi hj hij
  simp only [rR, decide_eq_false_iff_not] at a
  unfold BetR
  omega
theorem rdRm_at {l : List RmA} {n : Nat} (h : n < l.length) : rd_T73 l (n : Int) = l[n] := by simp [rd_T73, h]
def PickR (l : List RmA) (used : List Int) (i : Nat) (b : Int) : Prop :=
  (b = -1 ∧ ∀ j < i, (rd_T73 l (j : Int)).f0 ∈ used) ∨ ∃ m : Nat, b = (m : Int) ∧ m < i ∧ ¬ (rd_T73 l (m : Int)).f0 ∈ used ∧ ∀ j < i, ¬ (rd_T73 l (j : Int)).f0 ∈ used → j = m ∨ ((rd_T73 l (j : Int)).f1 < (rd_T73 l (m : Int)).f1 ∨ (rd_T73 l (j : Int)).f1 = (rd_T73 l (m : Int)).f1 ∧ m < j)
theorem aBest_l0 (l : List RmA) (used : List Int) (hl : l.length ≤ 1099511627776) (hu : used.length ≤ 1099511627776) : ∀ (d i : Nat) (b : Int), i + d = l.length → PickR l used i b → ∃ b', PickR l used l.length b' ∧ Ev (fun k => spec_l22Best.l0 k l used b (i : Int)) b' := by
  intro d
  induction d with
  | zero =>
    intro i b hd hp
    refine ⟨b, by rw [show l.length = i by omega]; exact hp, ?_⟩
    exact Ev.step (fun k => spec_l22Best.l0.eq_2 ..) (Ev.neg (by omega) (Ev.now _))
  | succ d ih =>
    intro i b hd hp
    have hi : i < l.length := by omega
    have hw := w64s (show i < 4611686018427387904 by omega)
    by_cases hin : (rd_T73 l (i : Int)).f0 ∈ used
    · obtain ⟨b', h1, h2⟩ := ih (i + 1) b (by omega) (by
        rcases hp with ⟨e, h⟩ | ⟨m, e, hm, h, h'⟩
        · refine Or.inl ⟨e, fun j hj => ?_⟩
          by_cases hji : j = i
          · rw [hji]; exact hin
          · exact h j (by omega)
        · refine Or.inr ⟨m, e, by omega, h, fun j hj hn => ?_⟩
          by_cases hji : j = i
          · rw [hji] at hn; exact absurd hin hn
          · exact h' j (by omega) hn)
      refine ⟨b', h1, Ev.step (fun k => spec_l22Best.l0.eq_2 ..) (Ev.pos (by omega) (Ev.pos (by omega) ?_))⟩
      refine Ev.bind (l4Has_ev _ _ hu) (Ev.pos (by simpa using hin) ?_)
      rw [hw]
      exact h2
    · rcases hp with ⟨e, h⟩ | ⟨m, e, hm, h, h'⟩
      · obtain ⟨b', h1, h2⟩ := ih (i + 1) (i : Int) (by omega) (Or.inr ⟨i, rfl, by omega, hin, fun j hj hn => by
          by_cases hji : j = i
          · exact Or.inl hji
          · exact absurd (h j (by omega)) hn⟩)
        refine ⟨b', h1, Ev.step (fun k => spec_l22Best.l0.eq_2 ..) (Ev.pos (by omega) (Ev.pos (by omega) ?_))⟩
        refine Ev.bind (l4Has_ev _ _ hu) (Ev.neg (by simpa using hin) (Ev.pos (by omega) ?_))
        rw [hw]
        exact h2
      · subst e
        by_cases hc : (rd_T73 l (m : Int)).f1 < (rd_T73 l (i : Int)).f1
        · obtain ⟨b', h1, h2⟩ := ih (i + 1) (i : Int) (by omega) (Or.inr ⟨i, rfl, by omega, hin, fun j hj hn => by
            by_cases hji : j = i
            · exact Or.inl hji
            · rcases h' j (by omega) hn with e | e
              · rw [e]; exact Or.inr (Or.inl hc)
              · exact Or.inr (Or.inl (by omega))⟩)
          refine ⟨b', h1, Ev.step (fun k => spec_l22Best.l0.eq_2 ..) (Ev.pos (by omega) (Ev.pos (by omega) ?_))⟩
          refine Ev.bind (l4Has_ev _ _ hu) (Ev.neg (by simpa using hin) (Ev.neg (by omega) (Ev.pos (by omega) (Ev.pos (by omega) (Ev.pos hc ?_)))))
          rw [hw]
          exact h2
        · obtain ⟨b', h1, h2⟩ := ih (i + 1) (m : Int) (by omega) (Or.inr ⟨m, rfl, by omega, h, fun j hj hn => by
            by_cases hji : j = i
            · rw [hji]; exact Or.inr (by omega)
            · exact h' j (by omega) hn⟩)
          refine ⟨b', h1, Ev.step (fun k => spec_l22Best.l0.eq_2 ..) (Ev.pos (by omega) (Ev.pos (by omega) ?_))⟩
          refine Ev.bind (l4Has_ev _ _ hu) (Ev.neg (by simpa using hin) (Ev.neg (by omega) (Ev.pos (by omega) (Ev.pos (by omega) (Ev.neg hc ?_)))))
          rw [hw]
          exact h2
theorem aBest_ev (l : List RmA) (used : List Int) (hl : l.length ≤ 1099511627776) (hu : used.length ≤ 1099511627776) : ∃ b', PickR l used l.length b' ∧ Ev (fun k => spec_l22Best.f k l used) b' := by
  unfold spec_l22Best.f
  exact aBest_l0 l used hl hu l.length 0 (-1) (by omega) (Or.inl ⟨rfl, fun j hj => by omega⟩)
def PickH (h out : List Int) (i : Nat) (b : Int) : Prop :=
  (b = -1 ∧ ∀ j < i, ¬ rd out (j : Int) = 0) ∨ ∃ m : Nat, b = (m : Int) ∧ m < i ∧ rd out (m : Int) = 0 ∧ ∀ j < i, rd out (j : Int) = 0 → j = m ∨ BetH h m j
def aTail (l : List RmA) (hs out used : List Int) (n b : Int) (k : Nat) : Option (List Int × Bool) := (spec_l22Best.f k l used).bind fun t => if 0 ≤ t then (if t < (l.length : Int) then (if 0 ≤ b then (if b < (out.length : Int) then ((some (out.set b.toNat ((rd_T73 l t).f0) : List Int)).bind fun y => if used.length < 17592186044416 then (spec_AssignRooms.l1 k l hs y (used ++ [rd y b]) (wrap64 (n + 1))) else none) else none) else none) else none) else none
theorem aScan (l : List RmA) (hs out used : List Int) (n : Int) (hl : hs.length ≤ 1099511627776) (ho : out.length = hs.length) : ∀ (d i : Nat) (b : Int), i + d = hs.length → PickH hs out i b → ∃ b', PickH hs out hs.length b' ∧ ∀ r, Ev (aTail l hs out used n b') r → Ev (fun k => spec_AssignRooms.l2 k l hs out used n b (i : Int)) r := by
  intro d
  induction d with
  | zero =>
    intro i b hd hp
    refine ⟨b, by rw [show hs.length = i by omega]; exact hp, fun r hr => ?_⟩
    exact Ev.step (fun k => spec_AssignRooms.l2.eq_2 ..) (Ev.neg (by omega) hr)
  | succ d ih =>
    intro i b hd hp
    have hi : i < hs.length := by omega
    have hw := w64s (show i < 4611686018427387904 by omega)
    by_cases hin : rd out (i : Int) = 0
    · rcases hp with ⟨e, h⟩ | ⟨m, e, hm, h, h'⟩
      · obtain ⟨b', h1, h2⟩ := ih (i + 1) (i : Int) (by omega) (Or.inr ⟨i, rfl, by omega, hin, fun j hj hn => by
          by_cases hji : j = i
          · exact Or.inl hji
          · exact absurd hn (h j (by omega))⟩)
        refine ⟨b', h1, fun r hr => Ev.step (fun k => spec_AssignRooms.l2.eq_2 ..) (Ev.pos (by omega) (Ev.pos (by omega) (Ev.pos (by omega) (Ev.pos hin (Ev.pos (by omega) ?_)))))⟩
        rw [hw]
        exact h2 r hr
      · subst e
        by_cases hc : rd hs (m : Int) < rd hs (i : Int)
        · obtain ⟨b', h1, h2⟩ := ih (i + 1) (i : Int) (by omega) (Or.inr ⟨i, rfl, by omega, hin, fun j hj hn => by
            by_cases hji : j = i
            · exact Or.inl hji
            · rcases h' j (by omega) hn with e | e
              · rw [e]; exact Or.inr (Or.inl hc)
              · unfold BetH at *
                exact Or.inr (Or.inl (by omega))⟩)
          refine ⟨b', h1, fun r hr => Ev.step (fun k => spec_AssignRooms.l2.eq_2 ..) (Ev.pos (by omega) (Ev.pos (by omega) (Ev.pos (by omega) (Ev.pos hin (Ev.neg (by omega) (Ev.pos (by omega) (Ev.pos (by omega) (Ev.pos hc ?_))))))))⟩
          rw [hw]
          exact h2 r hr
        · obtain ⟨b', h1, h2⟩ := ih (i + 1) (m : Int) (by omega) (Or.inr ⟨m, rfl, by omega, h, fun j hj hn => by
            by_cases hji : j = i
            · rw [hji]
              unfold BetH
              exact Or.inr (by omega)
            · exact h' j (by omega) hn⟩)
          refine ⟨b', h1, fun r hr => Ev.step (fun k => spec_AssignRooms.l2.eq_2 ..) (Ev.pos (by omega) (Ev.pos (by omega) (Ev.pos (by omega) (Ev.pos hin (Ev.neg (by omega) (Ev.pos (by omega) (Ev.pos (by omega) (Ev.neg hc ?_))))))))⟩
          rw [hw]
          exact h2 r hr
    · obtain ⟨b', h1, h2⟩ := ih (i + 1) b (by omega) (by
        rcases hp with ⟨e, h⟩ | ⟨m, e, hm, h, h'⟩
        · refine Or.inl ⟨e, fun j hj => ?_⟩
          by_cases hji : j = i
          · rw [hji]; exact hin
          · exact h j (by omega)
        · refine Or.inr ⟨m, e, by omega, h, fun j hj hn => ?_⟩
          by_cases hji : j = i
          · rw [hji] at hn; exact absurd hn hin
          · exact h' j (by omega) hn)
      refine ⟨b', h1, fun r hr => Ev.step (fun k => spec_AssignRooms.l2.eq_2 ..) (Ev.pos (by omega) (Ev.pos (by omega) (Ev.pos (by omega) (Ev.neg hin ?_))))⟩
      rw [hw]
      exact h2 r hr
theorem asgF_zero (o : List Int) (rm : List RmA) (x : Int) : ∀ n : Nat, (∀ i < n, ¬ (rd_T73 rm (i : Int)).f0 = 0) → (asgF o rm n x = 0 ↔ ∀ i < n, ¬ rd o (i : Int) = x)
  | 0, _ => ⟨fun _ i hi => by omega, fun _ => rfl⟩
  | n + 1, hz => by
    have ih := asgF_zero o rm x n (fun i hi => hz i (by omega))
    show (if x = rd o (n : Int) then _ else _) = 0 ↔ _
    by_cases hx : x = rd o (n : Int)
    · rw [if_pos hx]
      exact ⟨fun h => absurd h (hz n (by omega)), fun h => absurd hx.symm (h n (by omega))⟩
    · rw [if_neg hx, ih]
      refine ⟨fun h i hi => ?_, fun h i hi => h i (by omega)⟩
      by_cases hin : i = n
      · rw [hin]; exact fun e => hx e.symm
      · exact h i (by omega)
def outA (o : List Int) (rm : List RmA) (N n : Nat) : List Int := (List.range N).map fun (i : Nat) => asgF o rm n (i : Int)
theorem outA_len (o : List Int) (rm : List RmA) (N n : Nat) : (outA o rm N n).length = N := by simp [outA]
theorem outA_rd (o : List Int) (rm : List RmA) (N n j : Nat) (h : j < N) : rd (outA o rm N n) (j : Int) = asgF o rm n (j : Int) := by
  rw [rd_at (by rw [outA_len]; exact h)]
  simp [outA]
theorem outA_step (o : List Int) (rm : List RmA) (N n v : Nat) (hv : rd o (n : Int) = (v : Nat)) : (outA o rm N n).set v (rd_T73 rm (n : Int)).f0 = outA o rm N (n + 1) := by
  refine List.ext_getElem (by simp [outA]) (fun j h1 h2 => ?_)
  rw [List.getElem_set]
  have : (outA o rm N (n + 1))[j]'h2 = if (j : Int) = rd o (n : Int) then (rd_T73 rm (n : Int)).f0 else asgF o rm n (j : Int) := by simp [outA, asgF]
  rw [this, hv]
  by_cases e : v = j
  · rw [if_pos e, if_pos (by omega)]
  · rw [if_neg e, if_neg (by omega)]
    simp [outA]
theorem pickH_is {h o : List Int} (rm : List RmA) (hO : OrdOk h o) {n v : Nat} (hn : n < h.length) (hv : rd o (n : Int) = (v : Nat)) (hz : ∀ i < n, ¬ (rd_T73 rm (i : Int)).f0 = 0) {b : Int} (hb : PickH h (outA o rm h.length n) h.length b) : b = (v : Nat) := by
  have hvl : v < h.length := by
    obtain ⟨v', h1, h2⟩ := hO.val n hn
    omega
  have hPv : rd (outA o rm h.length n) (v : Int) = 0 := by
    rw [outA_rd _ _ _ _ _ hvl, asgF_zero o rm _ n hz]
    intro i hi e
    have := hO.srt i n v v hi hn e hv
    unfold BetH at this
    omega
  rcases hb with ⟨e, hh⟩ | ⟨m, e, hm, hP, hh⟩
  · exact absurd hPv (hh v hvl)
  · obtain ⟨i, hi, hio⟩ := hO.all m hm
    rw [outA_rd _ _ _ _ _ hm, asgF_zero o rm _ n hz] at hP
    have hni : ¬ i < n := fun h' => hP i h' hio
    by_cases hin : i = n
    · rw [hin] at hio
      omega
    · have h1 := hO.srt n i v m (by omega) hi hv hio
      rcases hh v hvl hPv with h2 | h2
      · omega
      · unfold BetH at h1 h2
        omega
theorem pickR_is {l rm : List RmA} (hf : roomsF 0 l = true) (hO : RmOk l rm) {n : Nat} (hn : n < l.length) {b : Int} (hb : PickR l ((rm.take n).map fun x => x.f0) l.length b) : ∃ m : Nat, b = (m : Int) ∧ m < l.length ∧ (rd_T73 l (m : Int)).f0 = (rd_T73 rm (n : Int)).f0 := by
  have hlen : rm.length = l.length := hO.perm.length_eq
  have hlt := List.pairwise_iff_getElem.1 (roomsF_lt l 0 hf)
  have hsr := List.pairwise_iff_getElem.1 hO.srt
  have hidx : ∀ m (hm : m < l.length), ∃ i, ∃ h : i < rm.length, rm[i] = l[m] := fun m hm => List.getElem_of_mem (hO.perm.mem_iff.2 (List.getElem_mem hm))
  have hidr : ∀ i (hi : i < rm.length), ∃ m, ∃ h : m < l.length, l[m] = rm[i] := fun i hi => List.getElem_of_mem (hO.perm.mem_iff.1 (List.getElem_mem hi))
  obtain ⟨q, hq, hqe⟩ := hidr n (by omega)
  have hused : ∀ y : Int, y ∈ ((rm.take n).map fun x => x.f0) ↔ ∃ i, ∃ h : i < rm.length, i < n ∧ (rm[i]).f0 = y := by
    intro y
    simp only [List.mem_map, List.mem_take_iff_getElem]
    constructor
    · rintro ⟨x, ⟨i, hi, e⟩, e2⟩
      exact ⟨i, by omega, by omega, by rw [e]; exact e2⟩
    · rintro ⟨i, hi, h1, e⟩
      exact ⟨rm[i], ⟨i, by omega, rfl⟩, e⟩
  -- one number, one place
  have hone : ∀ i j (hi : i < rm.length) (hj : j < rm.length), (rm[i]).f0 = (rm[j]).f0 → i = j := by
    intro i j hi hj e
    obtain ⟨a, ha, hae⟩ := hidr i hi
    obtain ⟨c, hc, hce⟩ := hidr j hj
    have hac : a = c := by
      rcases Nat.lt_trichotomy a c with h | h | h
      · have := hlt a c ha hc h
        rw [hae, hce] at this
        omega
      · exact h
      · have := hlt c a hc ha h
        rw [hae, hce] at this
        omega
    have he : rm[i] = rm[j] := by rw [← hae, ← hce]; simp only [hac]
    rcases Nat.lt_trichotomy i j with h | h | h
    · have := hsr i j hi hj h
      rw [he] at this
      unfold BetR at this
      omega
    · exact h
    · have := hsr j i hj hi h
      rw [he] at this
      unfold BetR at this
      omega
  have hqn : ¬ (rd_T73 l (q : Int)).f0 ∈ ((rm.take n).map fun x => x.f0) := by
    rw [hused, rdRm_at hq, hqe]
    rintro ⟨i, hi, h1, e⟩
    have := hone i n hi (by omega) e
    omega
  rcases hb with ⟨e, hh⟩ | ⟨m, e, hm, hP, hh⟩
  · exact absurd (hh q hq) hqn
  · refine ⟨m, e, hm, ?_⟩
    obtain ⟨i, hi, hie⟩ := hidx m hm
    have hni : ¬ i < n := fun h' => hP ((hused _).2 ⟨i, hi, h', by rw [hie, rdRm_at hm]⟩)
    rw [rdRm_at hm, rdRm_at (show n < rm.length by omega)]
    by_cases hin : i = n
    · subst hin
      rw [hie]
    · have h1 := hsr n i (by omega) hi (by omega)
      rw [hie, ← hqe] at h1
      rcases hh q hq hqn with h2 | h2
      · subst h2
        rw [hqe]
      · rw [rdRm_at hq, rdRm_at hm] at h2
        unfold BetR at h1
        exfalso
        by_cases hmq : m < q
        · have := hlt m q hm hq hmq
          omega
        · omega
theorem aLoop (l rm : List RmA) (hs o : List Int) (hf : roomsF 0 l = true) (hO : OrdOk hs o) (hR : RmOk l rm) (hle : hs.length ≤ l.length) (hl : l.length ≤ 1099511627776) : ∀ (d n : Nat), n + d = hs.length → Ev (fun k => spec_AssignRooms.l1 k l hs (outA o rm hs.length n) ((rm.take n).map fun x => x.f0) (n : Int)) (outA o rm hs.length hs.length, true) := by
  have hlen : rm.length = l.length := hR.perm.length_eq
  have hz : ∀ i < rm.length, ¬ (rd_T73 rm (i : Int)).f0 = 0 := fun i hi => by
    rw [rdRm_at hi]
    have := roomsF_mem l 0 hf _ (hR.perm.mem_iff.1 (List.getElem_mem hi))
    omega
  intro d
  induction d with
  | zero =>
    intro n hd
    refine Ev.step (fun k => spec_AssignRooms.l1.eq_2 ..) (Ev.neg (by omega) (Ev.some_ ?_))
    rw [show n = hs.length by omega]
  | succ d ih =>
    intro n hd
    have hn : n < hs.length := by omega
    obtain ⟨v, hv, hov⟩ := hO.val n hn
    refine Ev.step (fun k => spec_AssignRooms.l1.eq_2 ..) (Ev.pos (by omega) ?_)
    obtain ⟨b, hb1, hb2⟩ := aScan l hs (outA o rm hs.length n) ((rm.take n).map fun x => x.f0) (n : Int) (by omega) (outA_len _ _ _ _) hs.length 0 (-1) (by omega) (Or.inl ⟨rfl, fun j hj => by omega⟩)
    refine hb2 _ ?_
    have hbv := pickH_is rm hO hn hov (fun i hi => hz i (by omega)) hb1
    subst hbv
    obtain ⟨c, hc1, hc2⟩ := aBest_ev l ((rm.take n).map fun x => x.f0) hl (by simp; omega)
    obtain ⟨m, hm, hml, hme⟩ := pickR_is hf hR (show n < l.length by omega) hc1
    subst hm
    unfold aTail
    refine Ev.bind hc2 (Ev.pos (by omega) (Ev.pos (by omega) (Ev.pos (by omega) (Ev.pos (by rw [outA_len]; omega) (Ev.bnd rfl (Ev.pos (by simp; omega) ?_))))))
    rw [hme, Int.toNat_natCast, outA_step o rm hs.length n v hov, w64s (show n < 4611686018427387904 by omega), outA_rd _ _ _ _ _ hv]
    have e1 : asgF o rm (n + 1) (v : Int) = (rd_T73 rm (n : Int)).f0 := by simp [asgF, hov]
    have e2 : ((rm.take n).map fun x => x.f0) ++ [(rd_T73 rm (n : Int)).f0] = (rm.take (n + 1)).map fun x => x.f0 := by
      rw [List.take_succ_eq_append_getElem (show n < rm.length by omega), rdRm_at (show n < rm.length by omega), List.map_append]
      rfl
    rw [e1, e2]
    exact ih (n + 1) (by omega)
theorem aZeros (l rm : List RmA) (hs o : List Int) (r : List Int × Bool) (hl : hs.length ≤ 1099511627776) (hr : hs.all (fun x => decide (0 ≤ x)) = true → Ev (fun k => spec_AssignRooms.l1 k l hs (outA o rm hs.length 0) ((rm.take 0).map fun x => x.f0) ((0 : Nat) : Int)) r) : ∀ (d n : Nat), n + d = hs.length → (∀ j (h : j < hs.length), j < n → 0 ≤ hs[j]) → Ev (fun k => spec_AssignRooms.l0 k l hs (outA o rm n 0) (n : Int)) (if hs.all (fun x => decide (0 ≤ x)) = true then r else ([], false)) := by
  intro d
  induction d with
  | zero =>
    intro n hd hj
    have ha : hs.all (fun x => decide (0 ≤ x)) = true := by
      rw [List.all_eq_true]
      intro x hx
      obtain ⟨i, hi, e⟩ := List.getElem_of_mem hx
      have := hj i hi (by omega)
      rw [e] at this
      simpa using this
    rw [if_pos ha, show n = hs.length by omega]
    refine Ev.step (fun k => spec_AssignRooms.l0.eq_2 ..) (Ev.neg (by omega) ?_)
    exact hr ha
  | succ d ih =>
    intro n hd hj
    have hn : n < hs.length := by omega
    refine Ev.step (fun k => spec_AssignRooms.l0.eq_2 ..) (Ev.pos (by omega) (Ev.pos (by omega) ?_))
    refine Ev.ite (fun hneg => Ev.some_ ?_) (fun hpos => Ev.pos (by rw [outA_len]; omega) ?_)
    · rw [if_neg]
      rw [List.all_eq_true]
      intro hall
      have := hall hs[n] (List.getElem_mem hn)
      rw [rd_at hn] at hneg
      simp at this
      omega
    · rw [w64s (show n < 4611686018427387904 by omega), show outA o rm n 0 ++ [0] = outA o rm (n + 1) 0 by simp [outA, List.range_succ, asgF]]
      refine ih (n + 1) (by omega) (fun j h h1 => ?_)
      by_cases e : j = n
      · subst e
        rw [rd_at hn] at hpos
        omega
      · exact hj j h (by omega)
def asgT (l0 : List RmA) (l1 : List Int) : List Int × Bool := if okRooms l0 = true then (if l1.length ≤ l0.length then (if l1.all (fun x => decide (0 ≤ x)) = true then (asgL l0 l1, true) else ([], false)) else ([], false)) else ([], false)
theorem asgT_len (l0 : List RmA) (l1 : List Int) (h : l1.length ≤ 1099511627776) : (asgT l0 l1).1.length ≤ 1099511627776 := by
  unfold asgT
  split
  · split
    · split
      · simp [asgL]; omega
      · simp
    · simp
  · simp
theorem sAsg_ev (l0 : List RmA) (l1 : List Int) (hl : l0.length ≤ 1099511627776) : Ev (fun k => spec_AssignRooms.f k l0 l1) (asgT l0 l1) := by
  unfold spec_AssignRooms.f asgT
  refine Ev.bnd rfl (Ev.bind (sAreRooms_ev l0 hl) ?_)
  refine Ev.ite (fun h2 => ?_) (fun h2 => Ev.step (fun k => spec_AssignRooms.j0.eq_2 ..) (Ev.pos rfl (Ev.some_ (if_neg h2).symm)))
  rw [if_pos h2]
  refine Ev.step (fun k => spec_AssignRooms.j0.eq_2 ..) ?_
  refine Ev.ite (fun h3 => Ev.some_ ?_) (fun h3 => ?_)
  · rw [if_neg (by simp at h3; omega)]
  · have hle : l1.length ≤ l0.length := by simp at h3; omega
    rw [if_pos hle]
    have hf : roomsF 0 l0 = true := by
      unfold okRooms at h2
      simp only [Bool.and_eq_true] at h2
      exact h2.1
    refine aZeros l0 (srtR l0.toArray).toList l1 (ordL l1) (asgL l0 l1, true) (by omega) (fun _ => ?_) l1.length 0 (by omega) (fun j h h' => by omega)
    by_cases h0 : 0 < l1.length
    · exact aLoop l0 _ l1 _ hf (ordL_ok l1 h0) (srtR_ok l0 hf) hle hl l1.length 0 (by omega)
    · refine Ev.step (fun k => spec_AssignRooms.l1.eq_2 ..) (Ev.neg (by omega) (Ev.some_ ?_))
      have : l1.length = 0 := by omega
      simp [outA, asgL, this]
theorem iAsg_ev (l0 : List RmA) (l1 : List Int) (hl : l0.length ≤ 1099511627776) : Ev (fun k => impl_AssignRooms.f k l0 l1) (asgT l0 l1) := by
  unfold impl_AssignRooms.f asgT
  refine Ev.bind (iAreRooms_ev l0 hl) ?_
  refine Ev.ite (fun h2 => ?_) (fun h2 => Ev.some_ (if_neg h2).symm)
  rw [if_pos h2]
  have h20 : l0.length ≤ 20 := by
    have h3 := h2
    unfold okRooms at h3
    simp only [Bool.and_eq_true, decide_eq_true_eq] at h3
    omega
  refine Ev.ite (fun h3 => Ev.pos h20 ?_) (fun h3 => Ev.some_ (if_neg h3).symm)
  rw [if_pos h3]
  exact Ev.ite (fun h4 => Ev.some_ (if_pos h4).symm) (fun h4 => Ev.some_ (if_neg h4).symm)
end Go.Proofs.Ytadcndmhdbhfkaa.L
end
section
namespace Go.Proofs.Ytadcndmhdbhfkaa.A
open Go.RowKit Go.Proofs.YtadcndmhdbhfkaaW.PrintWords Go.Proofs.YtadcndmhdbhfkaaW.PrintLast Go.Proofs.YtadcndmhdbhfkaaW.PrintMore
attribute [local go_sem] max2_int min2_int max_two min_two max_three min_three max_four min_four
set_option linter.unusedVariables false
set_option linter.unusedSimpArgs false
def spec_Max.f (a0 : Int) (a1 : Int) : Option (Int) := if a1 > a0 then (some a1) else (some a0)
mutual
def spec_TurnedAway.j0 : Nat → List (S73) → List Int → List Int → Bool → Option (Int)
  | 0, _, _, _, _ => none
  | k + 1, x0, x1, x2, x20 => if x20 = true then (some (-1)) else (spec_TurnedAway.l0 k x0 x1 x2 0 0)
def spec_TurnedAway.l0 : Nat → List (S73) → List Int → List Int → Int → Int → Option (Int)
  | 0, _, _, _, _, _ => none
  | k + 1, x0, x1, x2, x7, x8 => if x8 < (x2.length : Int) then (spec_TurnedAway.l1 k x0 x1 x2 x7 x8 (-1) 0) else (some x7)
def spec_TurnedAway.l1 : Nat → List (S73) → List Int → List Int → Int → Int → Int → Int → Option (Int)
  | 0, _, _, _, _, _, _, _ => none
  | k + 1, x0, x1, x2, x7, x8, x9, x10 => if x10 < (x0.length : Int) then (if 0 ≤ x10 then (if 0 ≤ x8 then (if x8 < (x2.length : Int) then (if ((rd_T73 x0 x10).f0) = (rd x2 x8) then (spec_TurnedAway.l1 k x0 x1 x2 x7 x8 x10 (wrap64 (x10 + 1))) else (spec_TurnedAway.l1 k x0 x1 x2 x7 x8 x9 (wrap64 (x10 + 1)))) else (none)) else (none)) else (none)) else (if x9 < 0 then (some (-1)) else (if 0 ≤ x8 then (if x8 < (x1.length : Int) then ((spec_l1In.f (rd x1 x8) 0 10000).bind fun t111 => (if t111 = true then (if 0 ≤ x9 then (if x9 < (x0.length : Int) then ((spec_Max.f 0 (wrap64 ((rd x1 x8) - ((rd_T73 x0 x9).f1)))).bind fun t114 => (spec_TurnedAway.l0 k x0 x1 x2 (wrap64 (x7 + t114)) (wrap64 (x8 + 1)))) else (none)) else (none)) else (some (-1)))) else (none)) else (none)))
end
def spec_TurnedAway.f (k : Nat) (l0 : List (S73)) (l1 : List Int) (l2 : List Int) : Option (Int) := if (l2.length : Int) = (l1.length : Int) then ((spec_AreRooms.f k l0).bind fun t107 => (spec_TurnedAway.j0 k l0 l1 l2 (!t107))) else (spec_TurnedAway.j0 k l0 l1 l2 true)
end Go.Proofs.Ytadcndmhdbhfkaa.A
end
section
set_option linter.unusedVariables false
set_option linter.unusedSimpArgs false
namespace Go.Proofs.Ytadcndmhdbhfkaa.L
open Go Go.RowKit Go.Proofs.Ytadcndmhdbhfkaa.A Go.Proofs.YtadcndmhdbhfkaaW.PrintWords
abbrev Rm := S73
theorem fidx_cons {α : Type} (p : α → Bool) (x : α) (l : List α) : fidx p (x :: l) = if p x = true then 0 else if fidx p l < 0 then -1 else fidx p l + 1 := by
  unfold fidx
  rw [List.findIdx?_cons]
  by_cases h : p x = true
  · simp [h]
  · rw [if_neg h, if_neg h]
    cases l.findIdx? p with
    | none => simp
    | some i =>
      simp only [Option.map_some]
      rw [if_neg (by omega)]
      omega
theorem fidx_nil {α : Type} (p : α → Bool) : fidx p ([] : List α) = -1 := rfl
theorem fidx_range {α : Type} (p : α → Bool) : ∀ l : List α, -1 ≤ fidx p l ∧ fidx p l < l.length
  | [] => by simp [fidx_nil]
  | x :: l => by
    have := fidx_range p l
    rw [fidx_cons]
    simp only [List.length_cons]
    split
    · omega
    · split <;> omega
def lastF (id : Int) : List Rm → Int → Int → Int
  | [], _, a => a
  | r :: rs, m, a => lastF id rs (m + 1) (if r.f0 = id then m else a)
def tailR (R : Int → Int) (hv z : Int) : Int := if z < 0 then -1 else if inR hv 0 10000 = true then R z else -1
def turnT (l : List Rm) (hs ids : List Int) : Int := if okRooms l = true ∧ hs.length = ids.length then taI l hs ids 0 else -1
theorem iTurn_ev (l : List Rm) (hs ids : List Int) (hl : l.length ≤ 1099511627776) : Ev (fun k => impl_TurnedAway.f k l hs ids) (turnT l hs ids) := by
  unfold impl_TurnedAway.f turnT
  refine Ev.bind (iAreRooms_ev l hl) ?_
  refine Ev.ite (fun h => ?_) (fun h => Ev.some_ (if_neg (fun h2 => h h2.1)).symm)
  exact Ev.ite (fun h2 => Ev.some_ (if_pos ⟨h, h2⟩).symm) (fun h2 => Ev.some_ (if_neg (fun h3 => h2 h3.2)).symm)
end Go.Proofs.Ytadcndmhdbhfkaa.L
end
section
namespace Go.Proofs.Ytadcndmhdbhfkaa.A
open Go.RowKit Go.Proofs.YtadcndmhdbhfkaaW.PrintWords Go.Proofs.YtadcndmhdbhfkaaW.PrintLast Go.Proofs.YtadcndmhdbhfkaaW.PrintMore
attribute [local go_sem] max2_int min2_int max_two min_two max_three min_three max_four min_four
set_option linter.unusedVariables false
set_option linter.unusedSimpArgs false
def spec_LargestRoom.f (k : Nat) (l0 : List (S73)) : Option (Int) := (spec_l22Best.f k l0 ([] : List Int)).bind fun t181 => (if t181 < 0 then (some 0) else ((spec_AreRooms.f k l0).bind fun t182 => (if t182 = true then (if 0 ≤ t181 then (if t181 < (l0.length : Int) then (some ((rd_T73 l0 t181).f0)) else (none)) else (none)) else (some 0))))
end Go.Proofs.Ytadcndmhdbhfkaa.A
end
section
set_option linter.unusedVariables false
set_option linter.unusedSimpArgs false
namespace Go.Proofs.Ytadcndmhdbhfkaa.L
open Go Go.RowKit Go.Proofs.Ytadcndmhdbhfkaa.A Go.Proofs.YtadcndmhdbhfkaaW.PrintWords Go.Sort
abbrev RmL := S73
theorem lt_iff (x y : RmL) : ltOf cfR x y = true ↔ y.f1 < x.f1 := by
  unfold ltOf cfR
  rw [decide_eq_true_eq, cmpC_neg]
theorem lt_neg (x y : RmL) : ltOf cfR x y = false ↔ x.f1 ≤ y.f1 := by
  rw [Bool.eq_false_iff, Ne, lt_iff]
  omega
theorem swoR : SWO (ltOf cfR) where
  irrefl x := by rw [lt_neg]; omega
  trans x y z h1 h2 := by rw [lt_iff] at *; omega
  ntrans x y z h1 h2 := by rw [lt_neg] at *; omega
theorem swp_at (d : Array RmL) (j p : Nat) (h : j + 1 < d.size) (hp : p < j) : (swp d (j + 1) j)[p]! = d[p]! := by
  rw [swp_get d h (by omega) p]
  rw [if_neg (by omega), if_neg (by omega)]
theorem inner_size (lt : RmL → RmL → Bool) (a : Nat) : ∀ (j : Nat) (d : Array RmL), (insInner lt a j d).size = d.size
  | 0, d => rfl
  | j + 1, d => by
    rw [insInner]
    split
    · rw [inner_size lt a j]; simp [swp]
    · rfl
theorem inner_beyond (lt : RmL → RmL → Bool) : ∀ (j : Nat) (d : Array RmL) (p : Nat), j < d.size → j < p → p < d.size → (insInner lt 0 j d)[p]! = d[p]!
  | 0, d, p, _, _, _ => rfl
  | j + 1, d, p, hj, hp, hs => by
    rw [insInner]
    split
    · rw [inner_beyond lt j _ p (by simp [swp]; omega) (by omega) (by simp [swp]; omega)]
      rw [swp_get d hj (by omega) p, if_neg (by omega), if_neg (by omega)]
    · rfl
theorem inner_head : ∀ (j : Nat) (d : Array RmL), j < d.size → (∀ p, p < j → d[p]!.f1 ≤ d[0]!.f1) → (∀ p, p + 1 < j → d[p + 1]!.f1 ≤ d[p]!.f1) → (insInner (ltOf cfR) 0 j d)[0]! = if j = 0 then d[0]! else if d[0]!.f1 < d[j]!.f1 then d[j]! else d[0]!
  | 0, d, _, _, _ => rfl
  | j + 1, d, hj, h1, h2 => by
    rw [insInner, if_neg (by omega : ¬ (j + 1 = 0))]
    by_cases hc : ltOf cfR d[j + 1]! d[j]! = true
    · rw [if_pos (by simp [hc])]
      have hjj : j < d.size := by omega
      have e0 : ∀ p, p < j → (swp d (j + 1) j)[p]! = d[p]! := fun p hp => swp_at d j p hj hp
      have ej : (swp d (j + 1) j)[j]! = d[j + 1]! := by
        rw [swp_get d hj hjj j]
        simp
      rw [inner_head j _ (by simp [swp]; omega) (fun p hp => by rw [e0 p hp, e0 0 (by omega)]; exact h1 p (by omega)) (fun p hp => by rw [e0 p (by omega), e0 (p + 1) hp]; exact h2 p (by omega))]
      rw [lt_iff] at hc
      by_cases hz : j = 0
      · subst hz
        rw [if_pos rfl, ej, if_pos (by simpa using hc)]
      · rw [if_neg hz, ej, e0 0 (by omega)]
    · rw [if_neg (by simp [hc])]
      rw [Bool.not_eq_true, lt_neg] at hc
      have := h1 j (by omega)
      rw [if_neg (by omega)]
def best (l : List RmL) : Nat → Nat
  | 0 => 0
  | i + 1 => if i = 0 then 0 else if (l.getD (best l i) default).f1 < (l.getD i default).f1 then i else best l i
theorem best_lt (l : List RmL) : ∀ i, 0 < i → best l i < i
  | 0, h => by omega
  | i + 1, _ => by
    rw [best]
    split
    · omega
    · split
      · omega
      · have := best_lt l i (by omega)
        omega
theorem outer_head (l : List RmL) : ∀ (m i : Nat) (d : Array RmL), l.length - i = m → 0 < i → i ≤ l.length → d.size = l.length → SortedIn (ltOf cfR) 0 i d → (∀ p, i ≤ p → p < l.length → d[p]! = l.getD p default) → d[0]! = l.getD (best l i) default → (insOuter (ltOf cfR) 0 l.length i d)[0]! = l.getD (best l l.length) default
  | 0, i, d, hm, h0, hi, hd, hs, hp, hh => by
    rw [insOuter, if_neg (by omega), hh, show i = l.length by omega]
  | m + 1, i, d, hm, h0, hi, hd, hs, hp, hh => by
    have hlt : i < l.length := by omega
    rw [insOuter, if_pos hlt]
    have hsp := insInner_spec (lt := ltOf cfR) swoR swp_permIn permIn_refl permIn_trans 0 l.length i hlt i d (Nat.zero_le _) (Nat.le_refl _) (by omega) ⟨fun p q hap hpq hqi _ hq => hs p q hap hpq (by omega), fun q h1 h2 => by omega⟩
    have hno : ∀ p q, p < q → q < i → d[q]!.f1 ≤ d[p]!.f1 := fun p q h1 h2 => (lt_neg _ _).1 (hs p q (Nat.zero_le _) h1 h2)
    refine outer_head l m (i + 1) _ (by omega) (by omega) (by omega) (by rw [inner_size]; exact hd) hsp.2 (fun p h1 h2 => ?_) ?_
    · rw [inner_beyond _ i d p (by omega) (by omega) (by omega)]
      exact hp p (by omega) h2
    · rw [inner_head i d (by omega) (fun p h1 => by
        rcases Nat.eq_zero_or_pos p with e | e
        · rw [e]; exact Int.le_refl _
        · exact hno 0 p e h1) (fun p h1 => hno p (p + 1) (by omega) h1), if_neg (by omega), hh, hp i (Nat.le_refl _) hlt]
      have eb : best l (i + 1) = if (l.getD (best l i) default).f1 < (l.getD i default).f1 then i else best l i := by rw [best, if_neg (by omega)]
      rw [eb]
      split <;> rfl
theorem srt_head (l : List RmL) (h : 0 < l.length) : (srtR l.toArray)[0]! = l.getD (best l l.length) default := by
  unfold srtR Sort.insertionSort
  have := outer_head l _ 1 l.toArray rfl (by omega) (by omega) (by simp) (fun i j h1 h2 h3 => by omega) (fun p h1 h2 => by simp [h2]) (by simp [best, h])
  simpa using this
theorem rdRm_getD {l : List RmL} {n : Nat} (h : n < l.length) : l.getD n default = rd_T73 l (n : Int) := by simp [rd_T73, h]
def largeT (l : List RmL) : Int := if l.length = 0 then 0 else if okRooms l = true then (rd_T73 l (best l l.length : Int)).f0 else 0
theorem iLarge_ev (l : List RmL) (hl : l.length ≤ 1099511627776) : Ev (fun k => impl_LargestRoom.f k l) (largeT l) := by
  unfold impl_LargestRoom.f largeT
  refine Ev.ite (fun h => Ev.some_ (if_pos (by omega)).symm) (fun h => ?_)
  have h0 : ¬ l.length = 0 := by omega
  rw [if_neg h0]
  refine Ev.bind (iAreRooms_ev l hl) ?_
  refine Ev.ite (fun h2 => ?_) (fun h2 => Ev.some_ (if_neg h2).symm)
  have h20 : l.length ≤ 20 := by
    have h3 := h2
    unfold okRooms at h3
    simp only [Bool.and_eq_true, decide_eq_true_eq] at h3
    omega
  have hsz : (srtR l.toArray).size = l.length := by unfold srtR; rw [ins_size]; simp
  refine Ev.bnd (a := (srtR l.toArray).toList) (by unfold impl_fromLargest.f; exact if_pos ⟨by omega, h20⟩) ?_
  refine Ev.pos (by simp [hsz]; omega) (Ev.some_ ?_)
  rw [if_pos h2]
  have hb := best_lt l l.length (by omega)
  have e1 : rd_T73 (srtR l.toArray).toList 0 = (srtR l.toArray)[0]! := by
    have hz : 0 < (srtR l.toArray).size := by omega
    rw [getElem!_pos _ 0 hz]
    simp [rd_T73, hz]
  rw [e1, srt_head l (by omega), rdRm_getD hb]
theorem contains_l0 (l : List Int) (x : Int) (hl : l.length ≤ 1099511627776) : ∀ (d n : Nat), n + d = l.length → Ev (fun k => laws_contains.l0 k l x (n : Int)) (decide (x ∈ l.drop n)) := by
  intro d
  induction d with
  | zero =>
    intro n hd
    refine Ev.step (fun k => laws_contains.l0.eq_2 ..) (Ev.neg (by omega) (Ev.some_ ?_))
    rw [List.drop_eq_nil_of_le (by omega)]
    simp
  | succ d ih =>
    intro n hd
    have hn : n < l.length := by omega
    refine Ev.step (fun k => laws_contains.l0.eq_2 ..) (Ev.pos (by omega) (Ev.pos (by omega) ?_))
    simp only [w64s (show n < 4611686018427387904 by omega), rd_at hn]
    rw [List.drop_eq_getElem_cons hn]
    refine Ev.ite (fun h => Ev.some_ ?_) (fun h => Ev.cast (ih (n + 1) (by omega)) ?_)
    · exact (decide_eq_true (by rw [← h]; exact List.mem_cons_self)).symm
    · have h2 : ¬ x = l[n] := fun e => h e.symm
      exact decide_eq_decide.2 ⟨fun hm => List.mem_cons_of_mem _ hm, fun hm => (List.mem_cons.1 hm).resolve_left h2⟩
theorem contains_ev (l : List Int) (x : Int) (hl : l.length ≤ 1099511627776) : Ev (fun k => laws_contains.f k l x) (decide (x ∈ l)) := by
  unfold laws_contains.f
  exact Ev.cast (contains_l0 l x hl l.length 0 (by omega)) (by simp)
theorem seats_l0 (l : List RmA) (hl : l.length ≤ 1099511627776) (hr : ∀ r ∈ l, 1 ≤ r.f1 ∧ r.f1 ≤ 1000) : ∀ (d n : Nat) (acc : Int), n + d = l.length → 0 ≤ acc → acc + 1000 * d ≤ 4611686018427387904 → ∃ v : Int, 0 ≤ v ∧ Ev (fun k => impl_SeatsIn.l0 k acc l (l.length : Int) (n : Int)) v := by
  intro d
  induction d with
  | zero =>
    intro n acc hd h0 h1
    exact ⟨acc, h0, Ev.step (fun k => impl_SeatsIn.l0.eq_2 ..) (Ev.neg (by omega) (Ev.now _))⟩
  | succ d ih =>
    intro n acc hd h0 h1
    have hn : n < l.length := by omega
    have hb := hr l[n] (List.getElem_mem _)
    obtain ⟨v, hv, e⟩ := ih (n + 1) (acc + l[n].f1) (by omega) (by omega) (by omega)
    refine ⟨v, hv, Ev.step (fun k => impl_SeatsIn.l0.eq_2 ..) (Ev.pos (by omega) (Ev.pos (by omega) (Ev.pos (by omega) ?_)))⟩
    simp only [w64s (show n < 4611686018427387904 by omega), rdRm_at hn, w64 (show -9223372036854775808 ≤ acc + l[n].f1 by omega) (show acc + l[n].f1 ≤ 9223372036854775807 by omega)]
    exact e
theorem ok_asc {l : List RmA} (h : okRooms l = true) : roomsF 0 l = true ∧ l.length ≤ 20 := by
  unfold okRooms at h
  simp only [Bool.and_eq_true, decide_eq_true_eq] at h
  exact ⟨h.1, by omega⟩
theorem ok_mem {l : List RmA} (h : okRooms l = true) : ∀ r ∈ l, 1 ≤ r.f0 ∧ 1 ≤ r.f1 ∧ r.f1 ≤ 1000 := fun r hr => by
  have := roomsF_mem l 0 (ok_asc h).1 r hr
  omega
theorem seats_ev (l : List RmA) (hl : l.length ≤ 1099511627776) : ∃ v : Int, 0 ≤ v ∧ Ev (fun k => impl_SeatsIn.f k l) v := by
  unfold impl_SeatsIn.f
  by_cases ho : okRooms l = true
  · obtain ⟨v, hv, e⟩ := seats_l0 l hl (fun r hr => ⟨(ok_mem ho r hr).2.1, (ok_mem ho r hr).2.2⟩) l.length 0 0 (by omega) (by omega) (by omega)
    exact ⟨v, hv, Ev.bind (iAreRooms_ev l hl) (Ev.pos ho e)⟩
  · exact ⟨0, by omega, Ev.bind (iAreRooms_ev l hl) (Ev.neg ho (Ev.now _))⟩
theorem taI_ge {l : List RmA} (ho : okRooms l = true) : ∀ (hs ids : List Int) (n : Int), 0 ≤ n → n + 10000 * hs.length ≤ 4611686018427387904 → -1 ≤ taI l hs ids n
  | [], ids, n, h0, _ => by cases ids <;> (unfold taI; omega)
  | h :: hs, [], n, h0, _ => by unfold taI; omega
  | h :: hs, id :: ids, n, h0, h1 => by
    rw [taI]
    split
    · omega
    · rename_i hf
      split
      · rename_i hh
        have hr := fidx_range (fun r : S73 => decide (r.f0 = id)) l
        obtain ⟨j, hj⟩ : ∃ j : Nat, fidx (fun r : S73 => decide (r.f0 = id)) l = (j : Int) := ⟨(fidx (fun r : S73 => decide (r.f0 = id)) l).toNat, by omega⟩
        have hjl : j < l.length := by omega
        rw [hj, rdRm_at hjl]
        have hm := ok_mem ho l[j] (List.getElem_mem _)
        rw [w64 (x := h - l[j].f1) (by omega) (by omega)]
        have hx : 0 ≤ mx 0 (h - l[j].f1) ∧ mx 0 (h - l[j].f1) ≤ 10000 := by unfold mx; split <;> omega
        simp only [List.length_cons] at h1
        rw [w64 (by omega) (by omega)]
        exact taI_ge ho hs ids _ (by omega) (by omega)
      · omega
theorem turnT_ge (l : List RmA) (hs ids : List Int) (h : hs.length ≤ 1099511627776) : -1 ≤ turnT l hs ids := by
  unfold turnT
  split
  · rename_i ho
    exact taI_ge ho.1 hs ids 0 (by omega) (by omega)
  · omega
theorem turnT_one {l : List RmA} (ho : okRooms l = true) {x : RmA} (hx : x ∈ l) : turnT l [1000] [x.f0] = 1000 - x.f1 := by
  have hlt := List.pairwise_iff_getElem.1 (roomsF_lt l 0 (ok_asc ho).1)
  obtain ⟨j, hj, e⟩ := List.getElem_of_mem hx
  have hf : fidx (fun r : S73 => decide (r.f0 = x.f0)) l = (j : Int) := by
    refine fidx_hit _ l j hj (by simp [e]) (fun i hi hij => ?_)
    have := hlt i j hi hj hij
    rw [e] at this
    simp only [decide_eq_false_iff_not]
    omega
  have hm := ok_mem ho x hx
  have hnil : ∀ n, taI l [] [] n = n := fun n => by unfold taI; rfl
  unfold turnT
  rw [if_pos ⟨ho, rfl⟩, taI, if_neg (by rw [hf]; omega), if_pos (by omega), hf, rdRm_at hj, e, hnil, w64 (x := 1000 - x.f1) (by omega) (by omega)]
  have hx2 : mx 0 (1000 - x.f1) = 1000 - x.f1 := by unfold mx; split <;> omega
  rw [hx2, w64 (by omega) (by omega)]
  omega
theorem rm_one {l rm : List RmA} (hf : roomsF 0 l = true) (hO : RmOk l rm) : ∀ i j (hi : i < rm.length) (hj : j < rm.length), (rm[i]).f0 = (rm[j]).f0 → i = j := by
  have hlt := List.pairwise_iff_getElem.1 (roomsF_lt l 0 hf)
  have hsr := List.pairwise_iff_getElem.1 hO.srt
  have hidr : ∀ i (hi : i < rm.length), ∃ m, ∃ h : m < l.length, l[m] = rm[i] := fun i hi => List.getElem_of_mem (hO.perm.mem_iff.1 (List.getElem_mem hi))
  intro i j hi hj e
  obtain ⟨a, ha, hae⟩ := hidr i hi
  obtain ⟨c, hc, hce⟩ := hidr j hj
  have hac : a = c := by
    rcases Nat.lt_trichotomy a c with h | h | h
    · have := hlt a c ha hc h
      rw [hae, hce] at this
      omega
    · exact h
    · have := hlt c a hc ha h
      rw [hae, hce] at this
      omega
  have he : rm[i] = rm[j] := by rw [← hae, ← hce]; simp only [hac]
  rcases Nat.lt_trichotomy i j with h | h | h
  · have := hsr i j hi hj h
    rw [he] at this
    unfold BetR at this
    omega
  · exact h
  · have := hsr j i hj hi h
    rw [he] at this
    unfold BetR at this
    omega
theorem asgF_at (o : List Int) (rm : List RmA) (a : Nat) (x : Int) (hx : rd o (a : Int) = x) : ∀ n : Nat, a < n → (∀ c, a < c → c < n → ¬ rd o (c : Int) = x) → asgF o rm n x = (rd_T73 rm (a : Int)).f0
  | 0, h, _ => by omega
  | n + 1, h, hc => by
    show (if x = rd o (n : Int) then _ else _) = _
    by_cases e : a = n
    · subst e
      rw [if_pos hx.symm]
    · rw [if_neg (fun e2 => hc n (by omega) (by omega) e2.symm)]
      exact asgF_at o rm a x hx n (by omega) (fun c h1 h2 => hc c h1 (by omega))
structure Given (l : List RmA) (h ids : List Int) : Prop where
  len : ids.length = h.length
  nodup : ∀ i j : Nat, i < j → j < ids.length → ¬ rd ids (i : Int) = rd ids (j : Int)
  room : ∀ i : Nat, i < ids.length → ∃ x ∈ l, rd ids (i : Int) = x.f0
  big : ∀ (i k : Nat) (x y : RmA), i < ids.length → k < ids.length → x ∈ l → y ∈ l → rd ids (i : Int) = x.f0 → rd ids (k : Int) = y.f0 → rd h (k : Int) < rd h (i : Int) → y.f1 ≤ x.f1
  head : 0 < ids.length → largeT l ∈ ids
theorem given (l : List RmA) (h : List Int) (ho : okRooms l = true) (hle : h.length ≤ l.length) : Given l h (asgL l h) := by
  by_cases h0 : 0 < h.length
  · have hO := ordL_ok h h0
    have hf := (ok_asc ho).1
    have hR := srtR_ok l hf
    have hlen : (srtR l.toArray).toList.length = l.length := hR.perm.length_eq
    have hsr := List.pairwise_iff_getElem.1 hR.srt
    have hone := rm_one hf hR
    have hids : asgL l h = outA (ordL h) (srtR l.toArray).toList h.length h.length := rfl
    have hhead : rd_T73 (srtR l.toArray).toList ((0 : Nat) : Int) = l.getD (best l l.length) default := by
      have h2 : (srtR l.toArray)[0]! = (srtR l.toArray).toList[0]'(by omega) := by
        rw [getElem!_pos _ 0 (by simpa using (show 0 < (srtR l.toArray).toList.length by omega))]
        simp
      rw [rdRm_at (by omega), ← h2]
      exact srt_head l (by omega)
    generalize (srtR l.toArray).toList = rm at hR hlen hsr hone hids hhead
    rw [hids]
    generalize ordL h = o at hO
    clear hids
    have hinj : ∀ a c v : Nat, a < h.length → c < h.length → rd o (a : Int) = (v : Nat) → rd o (c : Int) = (v : Nat) → a = c := by
      intro a c v ha hc h1 h2
      rcases Nat.lt_trichotomy a c with e | e | e
      · have := hO.srt a c v v e hc h1 h2
        unfold BetH at this
        omega
      · exact e
      · have := hO.srt c a v v e ha h2 h1
        unfold BetH at this
        omega
    have hval : ∀ i : Nat, i < h.length → ∃ a, ∃ ha : a < rm.length, a < h.length ∧ rd o (a : Int) = (i : Nat) ∧ rd (outA o rm h.length h.length) (i : Int) = (rm[a]).f0 := by
      intro i hi
      obtain ⟨a, ha, hao⟩ := hO.all i hi
      refine ⟨a, by omega, ha, hao, ?_⟩
      rw [outA_rd _ _ _ _ _ hi, asgF_at o rm a _ hao h.length ha (fun c h1 h2 e => by have := hinj a c i ha h2 hao e; omega), rdRm_at (show a < rm.length by omega)]
    refine ⟨outA_len _ _ _ _, fun i j hij hj e => ?_, fun i hi => ?_, fun i k x y hi hk hx hy ex ey hh => ?_, fun _ => ?_⟩
    · rw [outA_len] at hj
      obtain ⟨a, ha, ha2, hao, ea⟩ := hval i (by omega)
      obtain ⟨c, hc, hc2, hco, ec⟩ := hval j hj
      rw [ea, ec] at e
      have := hone a c ha hc e
      subst this
      omega
    · rw [outA_len] at hi
      obtain ⟨a, ha, ha2, hao, ea⟩ := hval i hi
      exact ⟨rm[a], hR.perm.mem_iff.1 (List.getElem_mem ha), ea⟩
    · rw [outA_len] at hi hk
      obtain ⟨a, ha, ha2, hao, ea⟩ := hval i hi
      obtain ⟨c, hc, hc2, hco, ec⟩ := hval k hk
      obtain ⟨p, hp, hpx⟩ := List.getElem_of_mem (hR.perm.mem_iff.2 hx)
      obtain ⟨q, hq, hqy⟩ := List.getElem_of_mem (hR.perm.mem_iff.2 hy)
      rw [ea, ← hpx] at ex
      rw [ec, ← hqy] at ey
      have e1 := hone a p ha hp ex
      have e2 := hone c q hc hq ey
      subst e1 e2
      have hac : a < c := by
        rcases Nat.lt_trichotomy a c with e | e | e
        · exact e
        · subst e
          have : i = k := by omega
          subst this
          omega
        · have := hO.srt c a k i e ha2 hco hao
          unfold BetH at this
          omega
      have := hsr a c ha hc hac
      rw [hpx, hqy] at this
      unfold BetR at this
      omega
    · have hb := best_lt l l.length (by omega)
      obtain ⟨v, hv, hov⟩ := hO.val 0 h0
      obtain ⟨a, ha, ha2, hao, ea⟩ := hval v hv
      have ha0 := hinj a 0 v ha2 h0 hao hov
      subst ha0
      unfold largeT
      rw [if_neg (by omega), if_pos ho, ← rdRm_getD hb, ← hhead, rdRm_at ha, ← ea, rd_at (by rw [outA_len]; exact hv)]
      exact List.getElem_mem _
  · have hz : h.length = 0 := by omega
    have hids : asgL l h = [] := by simp [asgL, hz]
    rw [hids]
    exact ⟨by simp [hz], fun i j _ hj => by simp at hj, fun i hi => by simp at hi, fun i k x y hi => by simp at hi, fun h1 => by simp at h1⟩
theorem largeT_ne (l : List RmA) : largeT l ≠ 0 ↔ (0 < l.length ∧ okRooms l = true) := by
  unfold largeT
  by_cases h : l.length = 0
  · rw [if_pos h]
    exact ⟨fun h1 => absurd rfl h1, fun h1 => by omega⟩
  · rw [if_neg h]
    by_cases ho : okRooms l = true
    · rw [if_pos ho]
      have hb := best_lt l l.length (by omega)
      rw [rdRm_at hb]
      have := ok_mem ho _ (List.getElem_mem hb)
      exact ⟨fun _ => ⟨by omega, ho⟩, fun _ => by omega⟩
    · rw [if_neg ho]
      exact ⟨fun h1 => absurd rfl h1, fun h1 => absurd h1.2 ho⟩
end Go.Proofs.Ytadcndmhdbhfkaa.L
end
