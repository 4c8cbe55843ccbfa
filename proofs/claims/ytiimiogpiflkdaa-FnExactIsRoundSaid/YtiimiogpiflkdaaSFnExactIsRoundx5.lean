/- What the row FnExactIsRound rests on, put together: A31, A80, A81, LOpen, LBase, LInt, LTeam1, LFind, LCnt, LRngS, LRngI, LTeam2, LCont, LHas, LMet, LMay, LPair, LPerm, LRound, LXFnExactIsRound. No condition. -/
import Derived.Test.YtiimiogpiflkdaaSFnExactIsRoundx0
import Derived.Test.YtiimiogpiflkdaaSFnExactIsRoundx1
import Derived.Test.YtiimiogpiflkdaaSFnExactIsRoundx3
import Derived.Test.YtiimiogpiflkdaaSFnExactIsRoundx4
import Derived.Deep.Slices
import Derived.Deep.Fields
import Derived.ChangeSame
import Derived.Lib.SmallJoins
import Derived.Test.YtiimiogpiflkdaaSFnExactIsRoundx2
section
namespace Go.Proofs.Ytiimiogpiflkdaa.A
open Go.RowKit Go.Proofs.YtiimiogpiflkdaaW.PrintWords Go.Proofs.YtiimiogpiflkdaaW.PrintLast Go.Proofs.YtiimiogpiflkdaaW.PrintMore
attribute [local go_sem] max2_int min2_int max_two min_two max_three min_three max_four min_four   -- for this text's walks alone
set_option linter.unusedVariables false
set_option linter.unusedSimpArgs false
def impl_MayMeet.f (k : Nat) (l0 : List (S61)) (a1 : Int) (a2 : Int) : Option (Bool) := (impl_FindTeam.f l0 a1).bind fun t243 => ((impl_FindTeam.f l0 a2).bind fun t244 => ((impl_AreTeams.f k l0).bind fun t245 => (if t245 = true then (if t243 ≥ 0 then (if t244 ≥ 0 then (if t243 = t244 then (some false) else (if 0 ≤ t243 then (if t243 < (l0.length : Int) then (if 0 ≤ t244 then (if t244 < (l0.length : Int) then (if ((rd_T61 l0 t243).f1) = ((rd_T61 l0 t244).f1) then (some false) else ((impl_HaveMet.f k l0 a1 a2).bind fun t248 => (some (!t248)))) else (none)) else (none)) else (none)) else (none))) else (some false)) else (some false)) else (some false))))
def impl_MayMeet.T2 : Bool × List (List Nat × List Nat) := (true, [([], []), ([0], [0]), ([1, 1], [1]), ([2], [2]), ([3, 2], [2, 3]), ([2, 4], [2, 4]), ([5, 2], [5]), ([6], [6]), ([7, 6], [6, 7]), ([6, 8], [6, 8]), ([9, 6], [9]), ([10], [10]), ([10], [10]), ([11, 12, 10], [10, 11, 12]), ([10, 13], [10, 13]), ([14, 10], [14]), ([15], [15]), ([15], [15]), ([16, 17, 15], [15, 16, 17]), ([18, 15], [15, 18]), ([19, 15], [15, 19]), ([15], [15]), ([15], [15]), ([21, 22, 15], [15, 21, 22]), ([23, 15], [15, 23]), ([24, 15], [15, 24]), ([20, 25, 15], [15, 20, 25]), ([15, 26], [15, 26]), ([27, 15], [27]), ([28], [28]), ([28], [28]), ([28], [28]), ([29, 30, 31, 28, 28], [28, 29, 30, 31]), ([32, 28], [28, 32]), ([28, 33], [28, 33]), ([34, 32, 0, 1, 2, 3, 4, 5, 6, 7, 8, 9, 10, 11, 12, 13, 14, 15, 16, 17, 18, 19, 20, 21, 22, 23, 24, 25, 26, 27, 28, 29, 30, 31, 32, 33, 34], [34])])
def impl_MayMeet.B2 : List Nat := [0, 1, 3, 7, 15, 31, 63, 127, 255, 511, 1023, 2047, 2047, 8191, 16383, 32767, 65535, 65535, 262143, 524287, 1048575, 65535, 65535, 6356991, 14745599, 31522815, 67108863, 134217727, 268435455, 536870911, 536870911, 536870911, 4294967295, 8589934591, 17179869183, 34359738367]
theorem impl_MayMeet.tab2 : rtab .any (opsOf Try.f27 2) = impl_MayMeet.T2 := by kernel_rfl
theorem impl_MayMeet.bits2 : waitsOk impl_MayMeet.T2.2 impl_MayMeet.B2 = true := by kernel_rfl
set_option maxHeartbeats 8000000 in
set_option maxRecDepth 100000 in
theorem impl_MayMeet.calls (k : Nat) (A0 : Option Addr) (c0 : Nat) (l0 : List (S61)) (a1 : Int) (a2 : Int) (r : Bool) (w : World) (hr0 : Kd.C k61 w A0 l0.length l0) (hc0 : l0.length ≤ c0) (h : impl_MayMeet.f k l0 a1 a2 = some r) :
  Calls Try.prog 27 #[.slice A0 l0.length c0, .int .i64 a1, .int .i64 a2] w fun e w' => e = .returned (.bool r) ∧ Below w.heap.size w w' := by
 have HR0 := Aside0.mk hr0
 have HC0 := Aside0.mk hc0
 clear hr0 hc0
 have HB := Aside0.mk (Below.refl w.heap.size w)
 have H : ((impl_FindTeam.f l0 a1).bind fun t243 => ((impl_FindTeam.f l0 a2).bind fun t244 => ((impl_AreTeams.f k l0).bind fun t245 => (if t245 = true then (if t243 ≥ 0 then (if t244 ≥ 0 then (if t243 = t244 then (some false) else (if 0 ≤ t243 then (if t243 < (l0.length : Int) then (if 0 ≤ t244 then (if t244 < (l0.length : Int) then (if ((rd_T61 l0 t243).f1) = ((rd_T61 l0 t244).f1) then (some false) else ((impl_HaveMet.f k l0 a1 a2).bind fun t248 => (some (!t248)))) else (none)) else (none)) else (none)) else (none))) else (some false)) else (some false)) else (some false))))) = some r := h
 clear h
 replace H := Option.bind_eq_some_iff.mp H
 obtain ⟨t243, A40, H⟩ := H
 replace H : ((impl_FindTeam.f l0 a2).bind fun t244 => ((impl_AreTeams.f k l0).bind fun t245 => (if t245 = true then (if t243 ≥ 0 then (if t244 ≥ 0 then (if t243 = t244 then (some false) else (if 0 ≤ t243 then (if t243 < (l0.length : Int) then (if 0 ≤ t244 then (if t244 < (l0.length : Int) then (if ((rd_T61 l0 t243).f1) = ((rd_T61 l0 t244).f1) then (some false) else ((impl_HaveMet.f k l0 a1 a2).bind fun t248 => (some (!t248)))) else (none)) else (none)) else (none)) else (none))) else (some false)) else (some false)) else (some false)))) = some r := H
 have A4 := Aside0.mk A40
 clear A40
 replace H := Option.bind_eq_some_iff.mp H
 obtain ⟨t244, A50, H⟩ := H
 replace H : ((impl_AreTeams.f k l0).bind fun t245 => (if t245 = true then (if t243 ≥ 0 then (if t244 ≥ 0 then (if t243 = t244 then (some false) else (if 0 ≤ t243 then (if t243 < (l0.length : Int) then (if 0 ≤ t244 then (if t244 < (l0.length : Int) then (if ((rd_T61 l0 t243).f1) = ((rd_T61 l0 t244).f1) then (some false) else ((impl_HaveMet.f k l0 a1 a2).bind fun t248 => (some (!t248)))) else (none)) else (none)) else (none)) else (none))) else (some false)) else (some false)) else (some false))) = some r := H
 have A5 := Aside0.mk A50
 clear A50
 replace H := Option.bind_eq_some_iff.mp H
 obtain ⟨t245, A60, H⟩ := H
 replace H : (if t245 = true then (if t243 ≥ 0 then (if t244 ≥ 0 then (if t243 = t244 then (some false) else (if 0 ≤ t243 then (if t243 < (l0.length : Int) then (if 0 ≤ t244 then (if t244 < (l0.length : Int) then (if ((rd_T61 l0 t243).f1) = ((rd_T61 l0 t244).f1) then (some false) else ((impl_HaveMet.f k l0 a1 a2).bind fun t248 => (some (!t248)))) else (none)) else (none)) else (none)) else (none))) else (some false)) else (some false)) else (some false)) = some r := H
 have A6 := Aside0.mk A60
 clear A60
 by_cases c7 : t245 = true
 rotate_left
 ·
  replace c7 := Bool.eq_false_iff.mpr c7
  subst c7
  have H1 : (some false) = some r := by rw [if_neg (show ¬ (false = true) by decide)] at H; exact H
  clear H
  have H := H1
  clear H1
  obtain rfl := Option.some.inj H
  go_enter Try.func27, Try.ntmps27
  try go_wp2_with (first | ((with_reducible refine gate_callee (f := 18) rfl ?_); refine goesL_ (some 11) rfl rfl Try.func18 (by kernel_rfl) rfl #[.slice A0 l0.length c0, .int .i64 a1] rfl (by (try simp only [List.map_toArray, List.map_cons, List.map_nil]); first | done | rfl | (simp only [List.length_drop, List.length_take]; rfl)) ?_; (with_reducible refine (impl_FindTeam.calls _ _ l0 a1 t243 _ ?side1 ?side2 A4.out).mono ?_); (case side1 => repeat (first | exact HR0.out | (with_reducible refine Kd.C_alloc ?_ _) | (with_reducible refine Kd.C_drewN ?_ _) | (with_reducible refine Kd.C_drew ?_))); (case side2 => exact HC0.out); rintro e w38 ⟨rfl, hb⟩; refine ⟨_, rfl, ?_⟩; have n0_ := Aside0.mk (below_step (by repeat (first | (with_reducible first | exact HB.out | apply below_alloc | apply pw_below_drewN | apply below_drew1) | exact HB.out)) hb); clear HB; have HB := n0_; clear n0_; (try clear hb); (try clear hb2); (try clear hk); (try clear hi)) | ((with_reducible refine gate_callee (f := 18) rfl ?_); refine goesL_ (some 14) rfl rfl Try.func18 (by kernel_rfl) rfl #[.slice A0 l0.length c0, .int .i64 a2] rfl (by (try simp only [List.map_toArray, List.map_cons, List.map_nil]); first | done | rfl | (simp only [List.length_drop, List.length_take]; rfl)) ?_; (with_reducible refine (impl_FindTeam.calls _ _ l0 a2 t244 _ ?side1 ?side2 A5.out).mono ?_); (case side1 => repeat (first | exact (Kd.C_below HR0.out HB.out) | (with_reducible refine Kd.C_alloc ?_ _) | (with_reducible refine Kd.C_drewN ?_ _) | (with_reducible refine Kd.C_drew ?_))); (case side2 => exact HC0.out); rintro e w39 ⟨rfl, hb⟩; refine ⟨_, rfl, ?_⟩; have n0_ := Aside0.mk (below_step (by repeat (first | (with_reducible first | exact HB.out | apply below_alloc | apply pw_below_drewN | apply below_drew1) | exact HB.out)) hb); clear HB; have HB := n0_; clear n0_; (try clear hb); (try clear hb2); (try clear hk); (try clear hi)))
  have n0_ := Aside0.mk (below_drew1 HB.out)
  clear HB
  have HB := n0_
  clear n0_
  refine start_ (n := 36) (S := fun w' => True) (ds := []) (bv 36 0) (by kernel_rfl) rfl rfl trivial (fun hHeld => ?_); refine with_tabW impl_MayMeet.tab2 impl_MayMeet.bits2 (fun HT_ HW_ => ?_)
  generalize w39.drew = w40 at HB hHeld ⊢
  refine pv_ 36 0 15 1 rfl rfl HT_ ?_
  refine one_ (i := 1) (N := some 16) (bv 36 3) rfl rfl (one_of HT_.out (by kernel_rfl)) (by decide) (fun K hK => ?_)
  refine goes_ Try.func21 (by kernel_rfl) rfl #[.slice A0 l0.length c0] (by rfl) rfl rfl (by (try simp only [List.map_toArray, List.map_cons, List.map_nil]); first | done | rfl | (simp only [List.length_drop, List.length_take]; rfl)) ?_
  with_reducible refine (impl_AreTeams.calls k _ _ l0 false _ ?side1 ?side2 A6.out).mono ?_
  (case side1 => repeat (first | exact (Kd.C_below HR0.out HB.out) | (with_reducible refine Kd.C_alloc ?_ _) | (with_reducible refine Kd.C_drewN ?_ _) | (with_reducible refine Kd.C_drew ?_)))
  (case side2 => exact HC0.out)
  rintro e w41 ⟨rfl, hb⟩
  refine ⟨_, rfl, ?_⟩
  have n0_ := Aside0.mk (below_step (by repeat (first | (with_reducible first | exact HB.out | apply below_alloc | apply pw_below_drewN | apply below_drew1) | exact HB.out)) hb)
  clear HB
  have HB := n0_
  clear n0_
  (try clear hb)
  (try clear hb2)
  (try clear hk)
  (try clear hi)
  refine hK.out _ _ trivial (fun hHeld => ?_)
  clear hK K
  refine nm_ 16 ?_
  refine pv_ 36 2 17 7 rfl rfl HT_ ?_; refine pu_ 36 3 18 15 rfl rfl HT_ ?_; refine pu_ 36 4 19 31 rfl rfl HT_ ?_; refine pv_ 36 5 20 63 rfl rfl HT_ ?_; refine pv_ 36 6 21 127 rfl rfl HT_ ?_; refine pu_ 36 7 22 255 rfl rfl HT_ ?_; refine pu_ 36 8 23 511 rfl rfl HT_ ?_; refine pv_ 36 9 24 1023 rfl rfl HT_ ?_; refine pv_ 36 10 25 2047 rfl rfl HT_ ?_; refine pu_ 36 11 26 4095 rfl rfl HT_ ?_; refine pu_ 36 12 27 8191 rfl rfl HT_ ?_; refine pu_ 36 13 28 16383 rfl rfl HT_ ?_; refine pv_ 36 14 29 32767 rfl rfl HT_ ?_; refine pv_ 36 15 30 65535 rfl rfl HT_ ?_; refine pu_ 36 16 31 131071 rfl rfl HT_ ?_; refine pu_ 36 17 32 262143 rfl rfl HT_ ?_; refine pu_ 36 18 33 524287 rfl rfl HT_ ?_; refine pu_ 36 19 34 1048575 rfl rfl HT_ ?_; refine pu_ 36 20 35 2097151 rfl rfl HT_ ?_; refine pu_ 36 21 36 4194303 rfl rfl HT_ ?_; refine pu_ 36 22 37 8388607 rfl rfl HT_ ?_; refine pu_ 36 23 38 16777215 rfl rfl HT_ ?_
  refine pu_ 36 24 39 33554431 rfl rfl HT_ ?_; refine pu_ 36 25 40 67108863 rfl rfl HT_ ?_; refine pu_ 36 26 41 134217727 rfl rfl HT_ ?_; refine pv_ 36 27 42 268435455 rfl rfl HT_ ?_; refine pv_ 36 28 43 536870911 rfl rfl HT_ ?_; refine pu_ 36 29 44 1073741823 rfl rfl HT_ ?_; refine pu_ 36 30 45 2147483647 rfl rfl HT_ ?_; refine pu_ 36 31 46 4294967295 rfl rfl HT_ ?_; refine pu_ 36 32 47 8589934591 rfl rfl HT_ ?_; refine pu_ 36 33 48 17179869183 rfl rfl HT_ ?_; refine pv_ 36 34 49 34359738367 rfl rfl HT_ ?_; refine pv_ 36 35 6 68719476735 rfl rfl HT_ ?_
  refine done_ (done_of HT_.out (by kernel_rfl)) ?_
  try go_wp2
  all_goals (go_ret; exact ⟨by first | rfl | (simp [errW_none, errW_some] <;> rfl) | (simp [*, errW_none, errW_some] <;> rfl), by repeat (first | (with_reducible first | exact HB.out | apply below_alloc | apply pw_below_drewN | apply below_drew1) | exact HB.out)⟩)

 subst c7
 have H1 : (if t243 ≥ 0 then (if t244 ≥ 0 then (if t243 = t244 then (some false) else (if 0 ≤ t243 then (if t243 < (l0.length : Int) then (if 0 ≤ t244 then (if t244 < (l0.length : Int) then (if ((rd_T61 l0 t243).f1) = ((rd_T61 l0 t244).f1) then (some false) else ((impl_HaveMet.f k l0 a1 a2).bind fun t248 => (some (!t248)))) else (none)) else (none)) else (none)) else (none))) else (some false)) else (some false)) = some r := by rw [if_pos rfl] at H; exact H
 clear H
 have H := H1
 clear H1
 by_cases c8 : t243 ≥ 0
 rotate_left
 ·
  rw [if_neg c8] at H
  have c8b0 : decide (0 ≤ t243) = false := decide_eq_false c8
  clear c8
  obtain rfl := Option.some.inj H
  go_enter Try.func27, Try.ntmps27
  try go_wp2_with (first | ((with_reducible refine gate_callee (f := 18) rfl ?_); refine goesL_ (some 11) rfl rfl Try.func18 (by kernel_rfl) rfl #[.slice A0 l0.length c0, .int .i64 a1] rfl (by (try simp only [List.map_toArray, List.map_cons, List.map_nil]); first | done | rfl | (simp only [List.length_drop, List.length_take]; rfl)) ?_; (with_reducible refine (impl_FindTeam.calls _ _ l0 a1 t243 _ ?side1 ?side2 A4.out).mono ?_); (case side1 => repeat (first | exact HR0.out | (with_reducible refine Kd.C_alloc ?_ _) | (with_reducible refine Kd.C_drewN ?_ _) | (with_reducible refine Kd.C_drew ?_))); (case side2 => exact HC0.out); rintro e w34 ⟨rfl, hb⟩; refine ⟨_, rfl, ?_⟩; have n0_ := Aside0.mk (below_step (by repeat (first | (with_reducible first | exact HB.out | apply below_alloc | apply pw_below_drewN | apply below_drew1) | exact HB.out)) hb); clear HB; have HB := n0_; clear n0_; (try clear hb); (try clear hb2); (try clear hk); (try clear hi)) | ((with_reducible refine gate_callee (f := 18) rfl ?_); refine goesL_ (some 14) rfl rfl Try.func18 (by kernel_rfl) rfl #[.slice A0 l0.length c0, .int .i64 a2] rfl (by (try simp only [List.map_toArray, List.map_cons, List.map_nil]); first | done | rfl | (simp only [List.length_drop, List.length_take]; rfl)) ?_; (with_reducible refine (impl_FindTeam.calls _ _ l0 a2 t244 _ ?side1 ?side2 A5.out).mono ?_); (case side1 => repeat (first | exact (Kd.C_below HR0.out HB.out) | (with_reducible refine Kd.C_alloc ?_ _) | (with_reducible refine Kd.C_drewN ?_ _) | (with_reducible refine Kd.C_drew ?_))); (case side2 => exact HC0.out); rintro e w35 ⟨rfl, hb⟩; refine ⟨_, rfl, ?_⟩; have n0_ := Aside0.mk (below_step (by repeat (first | (with_reducible first | exact HB.out | apply below_alloc | apply pw_below_drewN | apply below_drew1) | exact HB.out)) hb); clear HB; have HB := n0_; clear n0_; (try clear hb); (try clear hb2); (try clear hk); (try clear hi)))
  have n0_ := Aside0.mk (below_drew1 HB.out)
  clear HB
  have HB := n0_
  clear n0_
  refine start_ (n := 36) (S := fun w' => True) (ds := []) (bv 36 0) (by kernel_rfl) rfl rfl trivial (fun hHeld => ?_); refine with_tabW impl_MayMeet.tab2 impl_MayMeet.bits2 (fun HT_ HW_ => ?_)
  generalize w35.drew = w36 at HB hHeld ⊢
  refine pv_ 36 0 15 1 rfl rfl HT_ ?_
  refine one_ (i := 1) (N := some 16) (bv 36 3) rfl rfl (one_of HT_.out (by kernel_rfl)) (by decide) (fun K hK => ?_)
  refine goes_ Try.func21 (by kernel_rfl) rfl #[.slice A0 l0.length c0] (by rfl) rfl rfl (by (try simp only [List.map_toArray, List.map_cons, List.map_nil]); first | done | rfl | (simp only [List.length_drop, List.length_take]; rfl)) ?_
  with_reducible refine (impl_AreTeams.calls k _ _ l0 true _ ?side1 ?side2 A6.out).mono ?_
  (case side1 => repeat (first | exact (Kd.C_below HR0.out HB.out) | (with_reducible refine Kd.C_alloc ?_ _) | (with_reducible refine Kd.C_drewN ?_ _) | (with_reducible refine Kd.C_drew ?_)))
  (case side2 => exact HC0.out)
  rintro e w37 ⟨rfl, hb⟩
  refine ⟨_, rfl, ?_⟩
  have n0_ := Aside0.mk (below_step (by repeat (first | (with_reducible first | exact HB.out | apply below_alloc | apply pw_below_drewN | apply below_drew1) | exact HB.out)) hb)
  clear HB
  have HB := n0_
  clear n0_
  (try clear hb)
  (try clear hb2)
  (try clear hk)
  (try clear hi)
  refine hK.out _ _ trivial (fun hHeld => ?_)
  clear hK K
  refine nm_ 16 ?_
  refine pv_ 36 2 17 7 rfl rfl HT_ ?_; refine pv_ 36 3 18 15 rfl rfl HT_ ?_; refine pv_ 36 4 19 31 rfl rfl HT_ ?_; refine pv_ 36 5 20 63 rfl rfl HT_ ?_; refine pv_ 36 6 21 127 rfl rfl HT_ ?_; refine pu_ 36 7 22 255 rfl rfl HT_ ?_; refine pu_ 36 8 23 511 rfl rfl HT_ ?_; refine pv_ 36 9 24 1023 rfl rfl HT_ ?_; refine pv_ 36 10 25 2047 rfl rfl HT_ ?_; refine pu_ 36 11 26 4095 rfl rfl HT_ ?_; refine pu_ 36 12 27 8191 rfl rfl HT_ ?_; refine pu_ 36 13 28 16383 rfl rfl HT_ ?_; refine pv_ 36 14 29 32767 rfl rfl HT_ ?_; refine pv_ 36 15 30 65535 rfl rfl HT_ ?_; refine pu_ 36 16 31 131071 rfl rfl HT_ ?_; refine pu_ 36 17 32 262143 rfl rfl HT_ ?_; refine pu_ 36 18 33 524287 rfl rfl HT_ ?_; refine pu_ 36 19 34 1048575 rfl rfl HT_ ?_; refine pu_ 36 20 35 2097151 rfl rfl HT_ ?_; refine pu_ 36 21 36 4194303 rfl rfl HT_ ?_; refine pu_ 36 22 37 8388607 rfl rfl HT_ ?_; refine pu_ 36 23 38 16777215 rfl rfl HT_ ?_
  refine pu_ 36 24 39 33554431 rfl rfl HT_ ?_; refine pu_ 36 25 40 67108863 rfl rfl HT_ ?_; refine pu_ 36 26 41 134217727 rfl rfl HT_ ?_; refine pv_ 36 27 42 268435455 rfl rfl HT_ ?_; refine pv_ 36 28 43 536870911 rfl rfl HT_ ?_; refine pu_ 36 29 44 1073741823 rfl rfl HT_ ?_; refine pu_ 36 30 45 2147483647 rfl rfl HT_ ?_; refine pu_ 36 31 46 4294967295 rfl rfl HT_ ?_; refine pu_ 36 32 47 8589934591 rfl rfl HT_ ?_; refine pu_ 36 33 48 17179869183 rfl rfl HT_ ?_; refine pv_ 36 34 49 34359738367 rfl rfl HT_ ?_; refine pv_ 36 35 6 68719476735 rfl rfl HT_ ?_
  refine done_ (done_of HT_.out (by kernel_rfl)) ?_
  try go_wp2
  all_goals (go_ret; exact ⟨by first | rfl | (simp [errW_none, errW_some] <;> rfl) | (simp [*, errW_none, errW_some] <;> rfl), by repeat (first | (with_reducible first | exact HB.out | apply below_alloc | apply pw_below_drewN | apply below_drew1) | exact HB.out)⟩)
 rw [if_pos c8] at H
 have c8b0 : decide (0 ≤ t243) = true := decide_eq_true c8
 clear c8
 by_cases c9 : t244 ≥ 0
 rotate_left
 ·
  rw [if_neg c9] at H
  have c9b0 : decide (0 ≤ t244) = false := decide_eq_false c9
  clear c9
  obtain rfl := Option.some.inj H
  go_enter Try.func27, Try.ntmps27
  try go_wp2_with (first | ((with_reducible refine gate_callee (f := 18) rfl ?_); refine goesL_ (some 11) rfl rfl Try.func18 (by kernel_rfl) rfl #[.slice A0 l0.length c0, .int .i64 a1] rfl (by (try simp only [List.map_toArray, List.map_cons, List.map_nil]); first | done | rfl | (simp only [List.length_drop, List.length_take]; rfl)) ?_; (with_reducible refine (impl_FindTeam.calls _ _ l0 a1 t243 _ ?side1 ?side2 A4.out).mono ?_); (case side1 => repeat (first | exact HR0.out | (with_reducible refine Kd.C_alloc ?_ _) | (with_reducible refine Kd.C_drewN ?_ _) | (with_reducible refine Kd.C_drew ?_))); (case side2 => exact HC0.out); rintro e w30 ⟨rfl, hb⟩; refine ⟨_, rfl, ?_⟩; have n0_ := Aside0.mk (below_step (by repeat (first | (with_reducible first | exact HB.out | apply below_alloc | apply pw_below_drewN | apply below_drew1) | exact HB.out)) hb); clear HB; have HB := n0_; clear n0_; (try clear hb); (try clear hb2); (try clear hk); (try clear hi)) | ((with_reducible refine gate_callee (f := 18) rfl ?_); refine goesL_ (some 14) rfl rfl Try.func18 (by kernel_rfl) rfl #[.slice A0 l0.length c0, .int .i64 a2] rfl (by (try simp only [List.map_toArray, List.map_cons, List.map_nil]); first | done | rfl | (simp only [List.length_drop, List.length_take]; rfl)) ?_; (with_reducible refine (impl_FindTeam.calls _ _ l0 a2 t244 _ ?side1 ?side2 A5.out).mono ?_); (case side1 => repeat (first | exact (Kd.C_below HR0.out HB.out) | (with_reducible refine Kd.C_alloc ?_ _) | (with_reducible refine Kd.C_drewN ?_ _) | (with_reducible refine Kd.C_drew ?_))); (case side2 => exact HC0.out); rintro e w31 ⟨rfl, hb⟩; refine ⟨_, rfl, ?_⟩; have n0_ := Aside0.mk (below_step (by repeat (first | (with_reducible first | exact HB.out | apply below_alloc | apply pw_below_drewN | apply below_drew1) | exact HB.out)) hb); clear HB; have HB := n0_; clear n0_; (try clear hb); (try clear hb2); (try clear hk); (try clear hi)))
  have n0_ := Aside0.mk (below_drew1 HB.out)
  clear HB
  have HB := n0_
  clear n0_
  refine start_ (n := 36) (S := fun w' => True) (ds := []) (bv 36 0) (by kernel_rfl) rfl rfl trivial (fun hHeld => ?_); refine with_tabW impl_MayMeet.tab2 impl_MayMeet.bits2 (fun HT_ HW_ => ?_)
  generalize w31.drew = w32 at HB hHeld ⊢
  refine pv_ 36 0 15 1 rfl rfl HT_ ?_
  refine one_ (i := 1) (N := some 16) (bv 36 3) rfl rfl (one_of HT_.out (by kernel_rfl)) (by decide) (fun K hK => ?_)
  refine goes_ Try.func21 (by kernel_rfl) rfl #[.slice A0 l0.length c0] (by rfl) rfl rfl (by (try simp only [List.map_toArray, List.map_cons, List.map_nil]); first | done | rfl | (simp only [List.length_drop, List.length_take]; rfl)) ?_
  with_reducible refine (impl_AreTeams.calls k _ _ l0 true _ ?side1 ?side2 A6.out).mono ?_
  (case side1 => repeat (first | exact (Kd.C_below HR0.out HB.out) | (with_reducible refine Kd.C_alloc ?_ _) | (with_reducible refine Kd.C_drewN ?_ _) | (with_reducible refine Kd.C_drew ?_)))
  (case side2 => exact HC0.out)
  rintro e w33 ⟨rfl, hb⟩
  refine ⟨_, rfl, ?_⟩
  have n0_ := Aside0.mk (below_step (by repeat (first | (with_reducible first | exact HB.out | apply below_alloc | apply pw_below_drewN | apply below_drew1) | exact HB.out)) hb)
  clear HB
  have HB := n0_
  clear n0_
  (try clear hb)
  (try clear hb2)
  (try clear hk)
  (try clear hi)
  refine hK.out _ _ trivial (fun hHeld => ?_)
  clear hK K
  refine nm_ 16 ?_
  refine pv_ 36 2 17 7 rfl rfl HT_ ?_; refine pv_ 36 3 18 15 rfl rfl HT_ ?_; refine pv_ 36 4 19 31 rfl rfl HT_ ?_; refine pv_ 36 5 20 63 rfl rfl HT_ ?_; refine pv_ 36 6 21 127 rfl rfl HT_ ?_; refine pv_ 36 7 22 255 rfl rfl HT_ ?_; refine pv_ 36 8 23 511 rfl rfl HT_ ?_; refine pv_ 36 9 24 1023 rfl rfl HT_ ?_; refine pv_ 36 10 25 2047 rfl rfl HT_ ?_; refine pu_ 36 11 26 4095 rfl rfl HT_ ?_; refine pu_ 36 12 27 8191 rfl rfl HT_ ?_; refine pu_ 36 13 28 16383 rfl rfl HT_ ?_; refine pv_ 36 14 29 32767 rfl rfl HT_ ?_; refine pv_ 36 15 30 65535 rfl rfl HT_ ?_; refine pu_ 36 16 31 131071 rfl rfl HT_ ?_; refine pu_ 36 17 32 262143 rfl rfl HT_ ?_; refine pu_ 36 18 33 524287 rfl rfl HT_ ?_; refine pu_ 36 19 34 1048575 rfl rfl HT_ ?_; refine pu_ 36 20 35 2097151 rfl rfl HT_ ?_; refine pu_ 36 21 36 4194303 rfl rfl HT_ ?_; refine pu_ 36 22 37 8388607 rfl rfl HT_ ?_; refine pu_ 36 23 38 16777215 rfl rfl HT_ ?_
  refine pu_ 36 24 39 33554431 rfl rfl HT_ ?_; refine pu_ 36 25 40 67108863 rfl rfl HT_ ?_; refine pu_ 36 26 41 134217727 rfl rfl HT_ ?_; refine pv_ 36 27 42 268435455 rfl rfl HT_ ?_; refine pv_ 36 28 43 536870911 rfl rfl HT_ ?_; refine pu_ 36 29 44 1073741823 rfl rfl HT_ ?_; refine pu_ 36 30 45 2147483647 rfl rfl HT_ ?_; refine pu_ 36 31 46 4294967295 rfl rfl HT_ ?_; refine pu_ 36 32 47 8589934591 rfl rfl HT_ ?_; refine pu_ 36 33 48 17179869183 rfl rfl HT_ ?_; refine pv_ 36 34 49 34359738367 rfl rfl HT_ ?_; refine pv_ 36 35 6 68719476735 rfl rfl HT_ ?_
  refine done_ (done_of HT_.out (by kernel_rfl)) ?_
  try go_wp2
  all_goals (go_ret; exact ⟨by first | rfl | (simp [errW_none, errW_some] <;> rfl) | (simp [*, errW_none, errW_some] <;> rfl), by repeat (first | (with_reducible first | exact HB.out | apply below_alloc | apply pw_below_drewN | apply below_drew1) | exact HB.out)⟩)
 rw [if_pos c9] at H
 have c9b0 : decide (0 ≤ t244) = true := decide_eq_true c9
 clear c9
 by_cases c10 : t243 = t244
 rotate_left
 ·
  rw [if_neg c10] at H
  have c10b0 : (t243 == t244) = false := beq_eq_false_iff_ne.mpr c10
  have c10b1 : (t243 != t244) = true := bne_iff_ne.mpr c10
  by_cases c15 : 0 ≤ t243
  rotate_left
  ·
   rw [if_neg c15] at H
   exact absurd H (by simp)
  rw [if_pos c15] at H
  have c15b0 : decide (0 ≤ t243) = true := decide_eq_true c15
  clear c15
  by_cases c16 : t243 < (l0.length : Int)
  rotate_left
  ·
   rw [if_neg c16] at H
   exact absurd H (by simp)
  rw [if_pos c16] at H
  have c16b0 : decide (t243 < (l0.length : Int)) = true := decide_eq_true c16
  clear c16
  by_cases c17 : 0 ≤ t244
  rotate_left
  ·
   rw [if_neg c17] at H
   exact absurd H (by simp)
  rw [if_pos c17] at H
  have c17b0 : decide (0 ≤ t244) = true := decide_eq_true c17
  clear c17
  by_cases c18 : t244 < (l0.length : Int)
  rotate_left
  ·
   rw [if_neg c18] at H
   exact absurd H (by simp)
  rw [if_pos c18] at H
  have c18b0 : decide (t244 < (l0.length : Int)) = true := decide_eq_true c18
  clear c18
  by_cases c19 : ((rd_T61 l0 t243).f1) = ((rd_T61 l0 t244).f1)
  rotate_left
  ·
   rw [if_neg c19] at H
   have c19b0 : (((rd_T61 l0 t243).f1) == ((rd_T61 l0 t244).f1)) = false := beq_eq_false_iff_ne.mpr c19
   have c19b1 : (((rd_T61 l0 t243).f1) != ((rd_T61 l0 t244).f1)) = true := bne_iff_ne.mpr c19
   replace H := Option.bind_eq_some_iff.mp H
   obtain ⟨t248, A240, H⟩ := H
   replace H : (some (!t248)) = some r := H
   have A24 := Aside0.mk A240
   clear A240
   obtain rfl := Option.some.inj H
   go_enter Try.func27, Try.ntmps27
   try go_wp2_with (first | ((with_reducible refine gate_callee (f := 18) rfl ?_); refine goesL_ (some 11) rfl rfl Try.func18 (by kernel_rfl) rfl #[.slice A0 l0.length c0, .int .i64 a1] rfl (by (try simp only [List.map_toArray, List.map_cons, List.map_nil]); first | done | rfl | (simp only [List.length_drop, List.length_take]; rfl)) ?_; (with_reducible refine (impl_FindTeam.calls _ _ l0 a1 t243 _ ?side1 ?side2 A4.out).mono ?_); (case side1 => repeat (first | exact HR0.out | (with_reducible refine Kd.C_alloc ?_ _) | (with_reducible refine Kd.C_drewN ?_ _) | (with_reducible refine Kd.C_drew ?_))); (case side2 => exact HC0.out); rintro e w25 ⟨rfl, hb⟩; refine ⟨_, rfl, ?_⟩; have n0_ := Aside0.mk (below_step (by repeat (first | (with_reducible first | exact HB.out | apply below_alloc | apply pw_below_drewN | apply below_drew1) | exact HB.out)) hb); clear HB; have HB := n0_; clear n0_; (try clear hb); (try clear hb2); (try clear hk); (try clear hi)) | ((with_reducible refine gate_callee (f := 18) rfl ?_); refine goesL_ (some 14) rfl rfl Try.func18 (by kernel_rfl) rfl #[.slice A0 l0.length c0, .int .i64 a2] rfl (by (try simp only [List.map_toArray, List.map_cons, List.map_nil]); first | done | rfl | (simp only [List.length_drop, List.length_take]; rfl)) ?_; (with_reducible refine (impl_FindTeam.calls _ _ l0 a2 t244 _ ?side1 ?side2 A5.out).mono ?_); (case side1 => repeat (first | exact (Kd.C_below HR0.out HB.out) | (with_reducible refine Kd.C_alloc ?_ _) | (with_reducible refine Kd.C_drewN ?_ _) | (with_reducible refine Kd.C_drew ?_))); (case side2 => exact HC0.out); rintro e w26 ⟨rfl, hb⟩; refine ⟨_, rfl, ?_⟩; have n0_ := Aside0.mk (below_step (by repeat (first | (with_reducible first | exact HB.out | apply below_alloc | apply pw_below_drewN | apply below_drew1) | exact HB.out)) hb); clear HB; have HB := n0_; clear n0_; (try clear hb); (try clear hb2); (try clear hk); (try clear hi)))
   have n0_ := Aside0.mk (below_drew1 HB.out)
   clear HB
   have HB := n0_
   clear n0_
   have p246 : 0 ≤ (t243 : Int) := of_decide_eq_true (by first | (with_reducible assumption) | assumption)
   have q246 : t243 < (l0.length : Int) := of_decide_eq_true (by first | (with_reducible assumption) | assumption)
   obtain ⟨ad246, A246_5, c246_5, e246, hx246_0, hx246_1, hx246_2, hx246_3, hx246_4, hx246_5, hl246_5, hi246_5⟩ := at_T61 HR0.out t243 p246 q246
   have hw246_5 := hx246_5
   have hw246_4 := hx246_4
   have hw246_3 := hx246_3
   have hw246_2 := hx246_2
   have hw246_1 := hx246_1
   have hw246_0 := hx246_0
   cases e246
   replace hx246_0 := (HB.out.cell (World.block_lt_of_cell? w _ hx246_0)).trans hx246_0
   replace hx246_1 := (HB.out.cell (World.block_lt_of_cell? w _ hx246_1)).trans hx246_1
   replace hx246_2 := (HB.out.cell (World.block_lt_of_cell? w _ hx246_2)).trans hx246_2
   replace hx246_3 := (HB.out.cell (World.block_lt_of_cell? w _ hx246_3)).trans hx246_3
   replace hx246_4 := (HB.out.cell (World.block_lt_of_cell? w _ hx246_4)).trans hx246_4
   replace hx246_5 := (HB.out.cell (World.block_lt_of_cell? w _ hx246_5)).trans hx246_5
   have HR246_5 := Aside0.mk hi246_5
   have HC246_5 := Aside0.mk hl246_5
   clear hi246_5 hl246_5
   replace p246 := eq_true p246
   replace q246 := eq_true q246
   have p247 : 0 ≤ (t244 : Int) := of_decide_eq_true (by first | (with_reducible assumption) | assumption)
   have q247 : t244 < (l0.length : Int) := of_decide_eq_true (by first | (with_reducible assumption) | assumption)
   obtain ⟨ad247, A247_5, c247_5, e247, hx247_0, hx247_1, hx247_2, hx247_3, hx247_4, hx247_5, hl247_5, hi247_5⟩ := at_T61 HR0.out t244 p247 q247
   have hw247_5 := hx247_5
   have hw247_4 := hx247_4
   have hw247_3 := hx247_3
   have hw247_2 := hx247_2
   have hw247_1 := hx247_1
   have hw247_0 := hx247_0
   obtain rfl : ad246 = ad247 := (by injection e247)
   replace hx247_0 := (HB.out.cell (World.block_lt_of_cell? w _ hx247_0)).trans hx247_0
   replace hx247_1 := (HB.out.cell (World.block_lt_of_cell? w _ hx247_1)).trans hx247_1
   replace hx247_2 := (HB.out.cell (World.block_lt_of_cell? w _ hx247_2)).trans hx247_2
   replace hx247_3 := (HB.out.cell (World.block_lt_of_cell? w _ hx247_3)).trans hx247_3
   replace hx247_4 := (HB.out.cell (World.block_lt_of_cell? w _ hx247_4)).trans hx247_4
   replace hx247_5 := (HB.out.cell (World.block_lt_of_cell? w _ hx247_5)).trans hx247_5
   have HR247_5 := Aside0.mk hi247_5
   have HC247_5 := Aside0.mk hl247_5
   clear hi247_5 hl247_5
   replace p247 := eq_true p247
   replace q247 := eq_true q247
   refine start_ (n := 36) (S := fun w' => w'.cell? (ad246.add ((t243).toNat * 6)) = some (.int .i64 ((rd_T61 l0 t243).f0)) ∧ w'.cell? ⟨(ad246.add ((t243).toNat * 6)).block, (ad246.add ((t243).toNat * 6)).off + 1, none⟩ = some (.int .i64 ((rd_T61 l0 t243).f1)) ∧ w'.cell? ⟨(ad246.add ((t243).toNat * 6)).block, (ad246.add ((t243).toNat * 6)).off + 2, none⟩ = some (.int .i64 ((rd_T61 l0 t243).f2)) ∧ w'.cell? ⟨(ad246.add ((t243).toNat * 6)).block, (ad246.add ((t243).toNat * 6)).off + 3, none⟩ = some (.int .i64 ((rd_T61 l0 t243).f3)) ∧ w'.cell? ⟨(ad246.add ((t243).toNat * 6)).block, (ad246.add ((t243).toNat * 6)).off + 4, none⟩ = some (.int .i64 ((rd_T61 l0 t243).f4)) ∧ w'.cell? ⟨(ad246.add ((t243).toNat * 6)).block, (ad246.add ((t243).toNat * 6)).off + 5, none⟩ = some (.slice A246_5 ((rd_T61 l0 t243).f5).length c246_5) ∧ w'.cell? (ad246.add ((t244).toNat * 6)) = some (.int .i64 ((rd_T61 l0 t244).f0)) ∧ w'.cell? ⟨(ad246.add ((t244).toNat * 6)).block, (ad246.add ((t244).toNat * 6)).off + 1, none⟩ = some (.int .i64 ((rd_T61 l0 t244).f1)) ∧ w'.cell? ⟨(ad246.add ((t244).toNat * 6)).block, (ad246.add ((t244).toNat * 6)).off + 2, none⟩ = some (.int .i64 ((rd_T61 l0 t244).f2)) ∧ w'.cell? ⟨(ad246.add ((t244).toNat * 6)).block, (ad246.add ((t244).toNat * 6)).off + 3, none⟩ = some (.int .i64 ((rd_T61 l0 t244).f3)) ∧ w'.cell? ⟨(ad246.add ((t244).toNat * 6)).block, (ad246.add ((t244).toNat * 6)).off + 4, none⟩ = some (.int .i64 ((rd_T61 l0 t244).f4)) ∧ w'.cell? ⟨(ad246.add ((t244).toNat * 6)).block, (ad246.add ((t244).toNat * 6)).off + 5, none⟩ = some (.slice A247_5 ((rd_T61 l0 t244).f5).length c247_5)) (ds := []) (bv 36 0) (by kernel_rfl) rfl rfl ⟨((HB.out.cell (World.block_lt_of_cell? w _ hw246_0)).trans hw246_0), ((HB.out.cell (World.block_lt_of_cell? w _ hw246_1)).trans hw246_1), ((HB.out.cell (World.block_lt_of_cell? w _ hw246_2)).trans hw246_2), ((HB.out.cell (World.block_lt_of_cell? w _ hw246_3)).trans hw246_3), ((HB.out.cell (World.block_lt_of_cell? w _ hw246_4)).trans hw246_4), ((HB.out.cell (World.block_lt_of_cell? w _ hw246_5)).trans hw246_5), ((HB.out.cell (World.block_lt_of_cell? w _ hw247_0)).trans hw247_0), ((HB.out.cell (World.block_lt_of_cell? w _ hw247_1)).trans hw247_1), ((HB.out.cell (World.block_lt_of_cell? w _ hw247_2)).trans hw247_2), ((HB.out.cell (World.block_lt_of_cell? w _ hw247_3)).trans hw247_3), ((HB.out.cell (World.block_lt_of_cell? w _ hw247_4)).trans hw247_4), ((HB.out.cell (World.block_lt_of_cell? w _ hw247_5)).trans hw247_5)⟩ (fun hHeld => ?_); refine with_tabW impl_MayMeet.tab2 impl_MayMeet.bits2 (fun HT_ HW_ => ?_)
   generalize w26.drew = w27 at HB HR246_5 HR247_5 hx246_0 hx246_1 hx246_2 hx246_3 hx246_4 hx246_5 hx247_0 hx247_1 hx247_2 hx247_3 hx247_4 hx247_5 hHeld ⊢
   refine pv_ 36 0 15 1 rfl rfl HT_ ?_
   refine one_ (i := 1) (N := some 16) (bv 36 3) rfl rfl (one_of HT_.out (by kernel_rfl)) (by decide) (fun K hK => ?_)
   refine goes_ Try.func21 (by kernel_rfl) rfl #[.slice (some ad246) l0.length c0] (by rfl) rfl rfl (by (try simp only [List.map_toArray, List.map_cons, List.map_nil]); first | done | rfl | (simp only [List.length_drop, List.length_take]; rfl)) ?_
   with_reducible refine (impl_AreTeams.calls k _ _ l0 true _ ?side1 ?side2 A6.out).mono ?_
   (case side1 => repeat (first | exact (Kd.C_below HR0.out HB.out) | (with_reducible refine Kd.C_alloc ?_ _) | (with_reducible refine Kd.C_drewN ?_ _) | (with_reducible refine Kd.C_drew ?_)))
   (case side2 => exact HC0.out)
   rintro e w28 ⟨rfl, hb⟩
   refine ⟨_, rfl, ?_⟩
   have n0_ := Aside0.mk (below_step (by repeat (first | (with_reducible first | exact HB.out | apply below_alloc | apply pw_below_drewN | apply below_drew1) | exact HB.out)) hb)
   clear HB
   have HB := n0_
   clear n0_
   (try clear hb)
   (try clear hb2)
   (try clear hk)
   (try clear hi)
   refine hK.out _ _ ⟨((HB.out.cell (World.block_lt_of_cell? w _ hw246_0)).trans hw246_0), ((HB.out.cell (World.block_lt_of_cell? w _ hw246_1)).trans hw246_1), ((HB.out.cell (World.block_lt_of_cell? w _ hw246_2)).trans hw246_2), ((HB.out.cell (World.block_lt_of_cell? w _ hw246_3)).trans hw246_3), ((HB.out.cell (World.block_lt_of_cell? w _ hw246_4)).trans hw246_4), ((HB.out.cell (World.block_lt_of_cell? w _ hw246_5)).trans hw246_5), ((HB.out.cell (World.block_lt_of_cell? w _ hw247_0)).trans hw247_0), ((HB.out.cell (World.block_lt_of_cell? w _ hw247_1)).trans hw247_1), ((HB.out.cell (World.block_lt_of_cell? w _ hw247_2)).trans hw247_2), ((HB.out.cell (World.block_lt_of_cell? w _ hw247_3)).trans hw247_3), ((HB.out.cell (World.block_lt_of_cell? w _ hw247_4)).trans hw247_4), ((HB.out.cell (World.block_lt_of_cell? w _ hw247_5)).trans hw247_5)⟩ (fun hHeld => ?_)
   clear hK K
   refine nm_ 16 ?_
   refine pv_ 36 2 17 7 rfl rfl HT_ ?_; refine pv_ 36 3 18 15 rfl rfl HT_ ?_; refine pv_ 36 4 19 31 rfl rfl HT_ ?_; refine pv_ 36 5 20 63 rfl rfl HT_ ?_; refine pv_ 36 6 21 127 rfl rfl HT_ ?_; refine pv_ 36 7 22 255 rfl rfl HT_ ?_; refine pv_ 36 8 23 511 rfl rfl HT_ ?_; refine pv_ 36 9 24 1023 rfl rfl HT_ ?_; refine pv_ 36 10 25 2047 rfl rfl HT_ ?_; refine pv_ 36 11 26 4095 rfl rfl HT_ ?_; refine pv_ 36 12 27 8191 rfl rfl HT_ ?_; refine pv_ 36 13 28 16383 rfl rfl HT_ ?_; refine pv_ 36 14 29 32767 rfl rfl HT_ ?_; refine pv_ 36 15 30 65535 rfl rfl HT_ ?_; refine pv_ 36 16 31 131071 rfl rfl HT_ ?_; refine pv_ 36 17 32 262143 rfl rfl HT_ ?_; refine pv_ 36 18 33 524287 rfl rfl HT_ ?_; refine pv_ 36 19 34 1048575 rfl rfl HT_ ?_; refine pv_ 36 21 36 3145727 rfl rfl HT_ ?_; refine pv_ 36 22 37 7340031 rfl rfl HT_ ?_; refine pv_ 36 23 38 15728639 rfl rfl HT_ ?_; refine pv_ 36 24 39 32505855 rfl rfl HT_ ?_
   refine tv_ 36 20 35 33554431 rfl rfl HT_ HW_ hHeld (by rintro w' ⟨s0, s1, s2, s3, s4, s5, s6, s7, s8, s9, s10, s11⟩; go_simp; with_reducible rfl) ?_
   refine tv_ 36 25 40 67108863 rfl rfl HT_ HW_ hHeld (by rintro w' ⟨s0, s1, s2, s3, s4, s5, s6, s7, s8, s9, s10, s11⟩; go_simp; with_reducible rfl) ?_
   refine pv_ 36 26 41 134217727 rfl rfl HT_ ?_; refine pv_ 36 27 42 268435455 rfl rfl HT_ ?_; refine pv_ 36 28 43 536870911 rfl rfl HT_ ?_; refine pv_ 36 29 44 1073741823 rfl rfl HT_ ?_; refine pv_ 36 30 45 2147483647 rfl rfl HT_ ?_; refine pv_ 36 31 46 4294967295 rfl rfl HT_ ?_
   refine one_ (i := 32) (N := some 47) (bv 36 8589934591) rfl rfl (one_of HT_.out (by kernel_rfl)) (by decide) (fun K hK => ?_)
   refine goes_ Try.func23 (by kernel_rfl) rfl #[.slice (some ad246) l0.length c0, .int .i64 a1, .int .i64 a2] (by rfl) rfl rfl (by (try simp only [List.map_toArray, List.map_cons, List.map_nil]); first | done | rfl | (simp only [List.length_drop, List.length_take]; rfl)) ?_
   with_reducible refine (impl_HaveMet.calls k _ _ l0 a1 a2 t248 _ ?side1 ?side2 A24.out).mono ?_
   (case side1 => repeat (first | exact (Kd.C_below HR0.out HB.out) | (with_reducible refine Kd.C_alloc ?_ _) | (with_reducible refine Kd.C_drewN ?_ _) | (with_reducible refine Kd.C_drew ?_)))
   (case side2 => exact HC0.out)
   rintro e w29 ⟨rfl, hb⟩
   refine ⟨_, rfl, ?_⟩
   have n0_ := Aside0.mk (below_step (by repeat (first | (with_reducible first | exact HB.out | apply below_alloc | apply pw_below_drewN | apply below_drew1) | exact HB.out)) hb)
   clear HB
   have HB := n0_
   clear n0_
   (try clear hb)
   (try clear hb2)
   (try clear hk)
   (try clear hi)
   refine hK.out _ _ ⟨((HB.out.cell (World.block_lt_of_cell? w _ hw246_0)).trans hw246_0), ((HB.out.cell (World.block_lt_of_cell? w _ hw246_1)).trans hw246_1), ((HB.out.cell (World.block_lt_of_cell? w _ hw246_2)).trans hw246_2), ((HB.out.cell (World.block_lt_of_cell? w _ hw246_3)).trans hw246_3), ((HB.out.cell (World.block_lt_of_cell? w _ hw246_4)).trans hw246_4), ((HB.out.cell (World.block_lt_of_cell? w _ hw246_5)).trans hw246_5), ((HB.out.cell (World.block_lt_of_cell? w _ hw247_0)).trans hw247_0), ((HB.out.cell (World.block_lt_of_cell? w _ hw247_1)).trans hw247_1), ((HB.out.cell (World.block_lt_of_cell? w _ hw247_2)).trans hw247_2), ((HB.out.cell (World.block_lt_of_cell? w _ hw247_3)).trans hw247_3), ((HB.out.cell (World.block_lt_of_cell? w _ hw247_4)).trans hw247_4), ((HB.out.cell (World.block_lt_of_cell? w _ hw247_5)).trans hw247_5)⟩ (fun hHeld => ?_)
   clear hK K
   refine nm_ 47 ?_
   refine pv_ 36 33 48 17179869183 rfl rfl HT_ ?_; refine pv_ 36 34 49 34359738367 rfl rfl HT_ ?_; refine pv_ 36 35 6 68719476735 rfl rfl HT_ ?_
   refine done_ (done_of HT_.out (by kernel_rfl)) ?_
   try go_wp2
   all_goals (go_ret; exact ⟨by first | rfl | (simp [errW_none, errW_some] <;> rfl) | (simp [*, errW_none, errW_some] <;> rfl), by repeat (first | (with_reducible first | exact HB.out | apply below_alloc | apply pw_below_drewN | apply below_drew1) | exact HB.out)⟩)
  rw [if_pos c19] at H
  have c19b0 : (((rd_T61 l0 t243).f1) == ((rd_T61 l0 t244).f1)) = true := beq_iff_eq.mpr c19
  have c19b1 : (((rd_T61 l0 t243).f1) != ((rd_T61 l0 t244).f1)) = false := bne_eq_false_iff_eq.mpr c19
  clear c19
  obtain rfl := Option.some.inj H
  go_enter Try.func27, Try.ntmps27
  try go_wp2_with (first | ((with_reducible refine gate_callee (f := 18) rfl ?_); refine goesL_ (some 11) rfl rfl Try.func18 (by kernel_rfl) rfl #[.slice A0 l0.length c0, .int .i64 a1] rfl (by (try simp only [List.map_toArray, List.map_cons, List.map_nil]); first | done | rfl | (simp only [List.length_drop, List.length_take]; rfl)) ?_; (with_reducible refine (impl_FindTeam.calls _ _ l0 a1 t243 _ ?side1 ?side2 A4.out).mono ?_); (case side1 => repeat (first | exact HR0.out | (with_reducible refine Kd.C_alloc ?_ _) | (with_reducible refine Kd.C_drewN ?_ _) | (with_reducible refine Kd.C_drew ?_))); (case side2 => exact HC0.out); rintro e w20 ⟨rfl, hb⟩; refine ⟨_, rfl, ?_⟩; have n0_ := Aside0.mk (below_step (by repeat (first | (with_reducible first | exact HB.out | apply below_alloc | apply pw_below_drewN | apply below_drew1) | exact HB.out)) hb); clear HB; have HB := n0_; clear n0_; (try clear hb); (try clear hb2); (try clear hk); (try clear hi)) | ((with_reducible refine gate_callee (f := 18) rfl ?_); refine goesL_ (some 14) rfl rfl Try.func18 (by kernel_rfl) rfl #[.slice A0 l0.length c0, .int .i64 a2] rfl (by (try simp only [List.map_toArray, List.map_cons, List.map_nil]); first | done | rfl | (simp only [List.length_drop, List.length_take]; rfl)) ?_; (with_reducible refine (impl_FindTeam.calls _ _ l0 a2 t244 _ ?side1 ?side2 A5.out).mono ?_); (case side1 => repeat (first | exact (Kd.C_below HR0.out HB.out) | (with_reducible refine Kd.C_alloc ?_ _) | (with_reducible refine Kd.C_drewN ?_ _) | (with_reducible refine Kd.C_drew ?_))); (case side2 => exact HC0.out); rintro e w21 ⟨rfl, hb⟩; refine ⟨_, rfl, ?_⟩; have n0_ := Aside0.mk (below_step (by repeat (first | (with_reducible first | exact HB.out | apply below_alloc | apply pw_below_drewN | apply below_drew1) | exact HB.out)) hb); clear HB; have HB := n0_; clear n0_; (try clear hb); (try clear hb2); (try clear hk); (try clear hi)))
  have n0_ := Aside0.mk (below_drew1 HB.out)
  clear HB
  have HB := n0_
  clear n0_
  have p246 : 0 ≤ (t243 : Int) := of_decide_eq_true (by first | (with_reducible assumption) | assumption)
  have q246 : t243 < (l0.length : Int) := of_decide_eq_true (by first | (with_reducible assumption) | assumption)
  obtain ⟨ad246, A246_5, c246_5, e246, hx246_0, hx246_1, hx246_2, hx246_3, hx246_4, hx246_5, hl246_5, hi246_5⟩ := at_T61 HR0.out t243 p246 q246
  have hw246_5 := hx246_5
  have hw246_4 := hx246_4
  have hw246_3 := hx246_3
  have hw246_2 := hx246_2
  have hw246_1 := hx246_1
  have hw246_0 := hx246_0
  cases e246
  replace hx246_0 := (HB.out.cell (World.block_lt_of_cell? w _ hx246_0)).trans hx246_0
  replace hx246_1 := (HB.out.cell (World.block_lt_of_cell? w _ hx246_1)).trans hx246_1
  replace hx246_2 := (HB.out.cell (World.block_lt_of_cell? w _ hx246_2)).trans hx246_2
  replace hx246_3 := (HB.out.cell (World.block_lt_of_cell? w _ hx246_3)).trans hx246_3
  replace hx246_4 := (HB.out.cell (World.block_lt_of_cell? w _ hx246_4)).trans hx246_4
  replace hx246_5 := (HB.out.cell (World.block_lt_of_cell? w _ hx246_5)).trans hx246_5
  have HR246_5 := Aside0.mk hi246_5
  have HC246_5 := Aside0.mk hl246_5
  clear hi246_5 hl246_5
  replace p246 := eq_true p246
  replace q246 := eq_true q246
  have p247 : 0 ≤ (t244 : Int) := of_decide_eq_true (by first | (with_reducible assumption) | assumption)
  have q247 : t244 < (l0.length : Int) := of_decide_eq_true (by first | (with_reducible assumption) | assumption)
  obtain ⟨ad247, A247_5, c247_5, e247, hx247_0, hx247_1, hx247_2, hx247_3, hx247_4, hx247_5, hl247_5, hi247_5⟩ := at_T61 HR0.out t244 p247 q247
  have hw247_5 := hx247_5
  have hw247_4 := hx247_4
  have hw247_3 := hx247_3
  have hw247_2 := hx247_2
  have hw247_1 := hx247_1
  have hw247_0 := hx247_0
  obtain rfl : ad246 = ad247 := (by injection e247)
  replace hx247_0 := (HB.out.cell (World.block_lt_of_cell? w _ hx247_0)).trans hx247_0
  replace hx247_1 := (HB.out.cell (World.block_lt_of_cell? w _ hx247_1)).trans hx247_1
  replace hx247_2 := (HB.out.cell (World.block_lt_of_cell? w _ hx247_2)).trans hx247_2
  replace hx247_3 := (HB.out.cell (World.block_lt_of_cell? w _ hx247_3)).trans hx247_3
  replace hx247_4 := (HB.out.cell (World.block_lt_of_cell? w _ hx247_4)).trans hx247_4
  replace hx247_5 := (HB.out.cell (World.block_lt_of_cell? w _ hx247_5)).trans hx247_5
  have HR247_5 := Aside0.mk hi247_5
  have HC247_5 := Aside0.mk hl247_5
  clear hi247_5 hl247_5
  replace p247 := eq_true p247
  replace q247 := eq_true q247
  refine start_ (n := 36) (S := fun w' => w'.cell? (ad246.add ((t243).toNat * 6)) = some (.int .i64 ((rd_T61 l0 t243).f0)) ∧ w'.cell? ⟨(ad246.add ((t243).toNat * 6)).block, (ad246.add ((t243).toNat * 6)).off + 1, none⟩ = some (.int .i64 ((rd_T61 l0 t243).f1)) ∧ w'.cell? ⟨(ad246.add ((t243).toNat * 6)).block, (ad246.add ((t243).toNat * 6)).off + 2, none⟩ = some (.int .i64 ((rd_T61 l0 t243).f2)) ∧ w'.cell? ⟨(ad246.add ((t243).toNat * 6)).block, (ad246.add ((t243).toNat * 6)).off + 3, none⟩ = some (.int .i64 ((rd_T61 l0 t243).f3)) ∧ w'.cell? ⟨(ad246.add ((t243).toNat * 6)).block, (ad246.add ((t243).toNat * 6)).off + 4, none⟩ = some (.int .i64 ((rd_T61 l0 t243).f4)) ∧ w'.cell? ⟨(ad246.add ((t243).toNat * 6)).block, (ad246.add ((t243).toNat * 6)).off + 5, none⟩ = some (.slice A246_5 ((rd_T61 l0 t243).f5).length c246_5) ∧ w'.cell? (ad246.add ((t244).toNat * 6)) = some (.int .i64 ((rd_T61 l0 t244).f0)) ∧ w'.cell? ⟨(ad246.add ((t244).toNat * 6)).block, (ad246.add ((t244).toNat * 6)).off + 1, none⟩ = some (.int .i64 ((rd_T61 l0 t244).f1)) ∧ w'.cell? ⟨(ad246.add ((t244).toNat * 6)).block, (ad246.add ((t244).toNat * 6)).off + 2, none⟩ = some (.int .i64 ((rd_T61 l0 t244).f2)) ∧ w'.cell? ⟨(ad246.add ((t244).toNat * 6)).block, (ad246.add ((t244).toNat * 6)).off + 3, none⟩ = some (.int .i64 ((rd_T61 l0 t244).f3)) ∧ w'.cell? ⟨(ad246.add ((t244).toNat * 6)).block, (ad246.add ((t244).toNat * 6)).off + 4, none⟩ = some (.int .i64 ((rd_T61 l0 t244).f4)) ∧ w'.cell? ⟨(ad246.add ((t244).toNat * 6)).block, (ad246.add ((t244).toNat * 6)).off + 5, none⟩ = some (.slice A247_5 ((rd_T61 l0 t244).f5).length c247_5)) (ds := []) (bv 36 0) (by kernel_rfl) rfl rfl ⟨((HB.out.cell (World.block_lt_of_cell? w _ hw246_0)).trans hw246_0), ((HB.out.cell (World.block_lt_of_cell? w _ hw246_1)).trans hw246_1), ((HB.out.cell (World.block_lt_of_cell? w _ hw246_2)).trans hw246_2), ((HB.out.cell (World.block_lt_of_cell? w _ hw246_3)).trans hw246_3), ((HB.out.cell (World.block_lt_of_cell? w _ hw246_4)).trans hw246_4), ((HB.out.cell (World.block_lt_of_cell? w _ hw246_5)).trans hw246_5), ((HB.out.cell (World.block_lt_of_cell? w _ hw247_0)).trans hw247_0), ((HB.out.cell (World.block_lt_of_cell? w _ hw247_1)).trans hw247_1), ((HB.out.cell (World.block_lt_of_cell? w _ hw247_2)).trans hw247_2), ((HB.out.cell (World.block_lt_of_cell? w _ hw247_3)).trans hw247_3), ((HB.out.cell (World.block_lt_of_cell? w _ hw247_4)).trans hw247_4), ((HB.out.cell (World.block_lt_of_cell? w _ hw247_5)).trans hw247_5)⟩ (fun hHeld => ?_); refine with_tabW impl_MayMeet.tab2 impl_MayMeet.bits2 (fun HT_ HW_ => ?_)
  generalize w21.drew = w22 at HB HR246_5 HR247_5 hx246_0 hx246_1 hx246_2 hx246_3 hx246_4 hx246_5 hx247_0 hx247_1 hx247_2 hx247_3 hx247_4 hx247_5 hHeld ⊢
  refine pv_ 36 0 15 1 rfl rfl HT_ ?_
  refine one_ (i := 1) (N := some 16) (bv 36 3) rfl rfl (one_of HT_.out (by kernel_rfl)) (by decide) (fun K hK => ?_)
  refine goes_ Try.func21 (by kernel_rfl) rfl #[.slice (some ad246) l0.length c0] (by rfl) rfl rfl (by (try simp only [List.map_toArray, List.map_cons, List.map_nil]); first | done | rfl | (simp only [List.length_drop, List.length_take]; rfl)) ?_
  with_reducible refine (impl_AreTeams.calls k _ _ l0 true _ ?side1 ?side2 A6.out).mono ?_
  (case side1 => repeat (first | exact (Kd.C_below HR0.out HB.out) | (with_reducible refine Kd.C_alloc ?_ _) | (with_reducible refine Kd.C_drewN ?_ _) | (with_reducible refine Kd.C_drew ?_)))
  (case side2 => exact HC0.out)
  rintro e w23 ⟨rfl, hb⟩
  refine ⟨_, rfl, ?_⟩
  have n0_ := Aside0.mk (below_step (by repeat (first | (with_reducible first | exact HB.out | apply below_alloc | apply pw_below_drewN | apply below_drew1) | exact HB.out)) hb)
  clear HB
  have HB := n0_
  clear n0_
  (try clear hb)
  (try clear hb2)
  (try clear hk)
  (try clear hi)
  refine hK.out _ _ ⟨((HB.out.cell (World.block_lt_of_cell? w _ hw246_0)).trans hw246_0), ((HB.out.cell (World.block_lt_of_cell? w _ hw246_1)).trans hw246_1), ((HB.out.cell (World.block_lt_of_cell? w _ hw246_2)).trans hw246_2), ((HB.out.cell (World.block_lt_of_cell? w _ hw246_3)).trans hw246_3), ((HB.out.cell (World.block_lt_of_cell? w _ hw246_4)).trans hw246_4), ((HB.out.cell (World.block_lt_of_cell? w _ hw246_5)).trans hw246_5), ((HB.out.cell (World.block_lt_of_cell? w _ hw247_0)).trans hw247_0), ((HB.out.cell (World.block_lt_of_cell? w _ hw247_1)).trans hw247_1), ((HB.out.cell (World.block_lt_of_cell? w _ hw247_2)).trans hw247_2), ((HB.out.cell (World.block_lt_of_cell? w _ hw247_3)).trans hw247_3), ((HB.out.cell (World.block_lt_of_cell? w _ hw247_4)).trans hw247_4), ((HB.out.cell (World.block_lt_of_cell? w _ hw247_5)).trans hw247_5)⟩ (fun hHeld => ?_)
  clear hK K
  refine nm_ 16 ?_
  refine pv_ 36 2 17 7 rfl rfl HT_ ?_; refine pv_ 36 3 18 15 rfl rfl HT_ ?_; refine pv_ 36 4 19 31 rfl rfl HT_ ?_; refine pv_ 36 5 20 63 rfl rfl HT_ ?_; refine pv_ 36 6 21 127 rfl rfl HT_ ?_; refine pv_ 36 7 22 255 rfl rfl HT_ ?_; refine pv_ 36 8 23 511 rfl rfl HT_ ?_; refine pv_ 36 9 24 1023 rfl rfl HT_ ?_; refine pv_ 36 10 25 2047 rfl rfl HT_ ?_; refine pv_ 36 11 26 4095 rfl rfl HT_ ?_; refine pv_ 36 12 27 8191 rfl rfl HT_ ?_; refine pv_ 36 13 28 16383 rfl rfl HT_ ?_; refine pv_ 36 14 29 32767 rfl rfl HT_ ?_; refine pv_ 36 15 30 65535 rfl rfl HT_ ?_; refine pv_ 36 16 31 131071 rfl rfl HT_ ?_; refine pv_ 36 17 32 262143 rfl rfl HT_ ?_; refine pv_ 36 18 33 524287 rfl rfl HT_ ?_; refine pv_ 36 19 34 1048575 rfl rfl HT_ ?_; refine pv_ 36 21 36 3145727 rfl rfl HT_ ?_; refine pv_ 36 22 37 7340031 rfl rfl HT_ ?_; refine pv_ 36 23 38 15728639 rfl rfl HT_ ?_; refine pv_ 36 24 39 32505855 rfl rfl HT_ ?_
  refine tv_ 36 20 35 33554431 rfl rfl HT_ HW_ hHeld (by rintro w' ⟨s0, s1, s2, s3, s4, s5, s6, s7, s8, s9, s10, s11⟩; go_simp; with_reducible rfl) ?_
  refine tv_ 36 25 40 67108863 rfl rfl HT_ HW_ hHeld (by rintro w' ⟨s0, s1, s2, s3, s4, s5, s6, s7, s8, s9, s10, s11⟩; go_simp; with_reducible rfl) ?_
  refine pv_ 36 26 41 134217727 rfl rfl HT_ ?_; refine pv_ 36 27 42 268435455 rfl rfl HT_ ?_; refine pv_ 36 28 43 536870911 rfl rfl HT_ ?_; refine pu_ 36 29 44 1073741823 rfl rfl HT_ ?_; refine pu_ 36 30 45 2147483647 rfl rfl HT_ ?_; refine pu_ 36 31 46 4294967295 rfl rfl HT_ ?_; refine pu_ 36 32 47 8589934591 rfl rfl HT_ ?_; refine pu_ 36 33 48 17179869183 rfl rfl HT_ ?_; refine pv_ 36 34 49 34359738367 rfl rfl HT_ ?_; refine pv_ 36 35 6 68719476735 rfl rfl HT_ ?_
  refine done_ (done_of HT_.out (by kernel_rfl)) ?_
  try go_wp2
  all_goals (go_ret; exact ⟨by first | rfl | (simp [errW_none, errW_some] <;> rfl) | (simp [*, errW_none, errW_some] <;> rfl), by repeat (first | (with_reducible first | exact HB.out | apply below_alloc | apply pw_below_drewN | apply below_drew1) | exact HB.out)⟩)
 rw [if_pos c10] at H
 have c10b0 : (t243 == t244) = true := beq_iff_eq.mpr c10
 have c10b1 : (t243 != t244) = false := bne_eq_false_iff_eq.mpr c10
 clear c10
 obtain rfl := Option.some.inj H
 go_enter Try.func27, Try.ntmps27
 try go_wp2_with (first | ((with_reducible refine gate_callee (f := 18) rfl ?_); refine goesL_ (some 11) rfl rfl Try.func18 (by kernel_rfl) rfl #[.slice A0 l0.length c0, .int .i64 a1] rfl (by (try simp only [List.map_toArray, List.map_cons, List.map_nil]); first | done | rfl | (simp only [List.length_drop, List.length_take]; rfl)) ?_; (with_reducible refine (impl_FindTeam.calls _ _ l0 a1 t243 _ ?side1 ?side2 A4.out).mono ?_); (case side1 => repeat (first | exact HR0.out | (with_reducible refine Kd.C_alloc ?_ _) | (with_reducible refine Kd.C_drewN ?_ _) | (with_reducible refine Kd.C_drew ?_))); (case side2 => exact HC0.out); rintro e w11 ⟨rfl, hb⟩; refine ⟨_, rfl, ?_⟩; have n0_ := Aside0.mk (below_step (by repeat (first | (with_reducible first | exact HB.out | apply below_alloc | apply pw_below_drewN | apply below_drew1) | exact HB.out)) hb); clear HB; have HB := n0_; clear n0_; (try clear hb); (try clear hb2); (try clear hk); (try clear hi)) | ((with_reducible refine gate_callee (f := 18) rfl ?_); refine goesL_ (some 14) rfl rfl Try.func18 (by kernel_rfl) rfl #[.slice A0 l0.length c0, .int .i64 a2] rfl (by (try simp only [List.map_toArray, List.map_cons, List.map_nil]); first | done | rfl | (simp only [List.length_drop, List.length_take]; rfl)) ?_; (with_reducible refine (impl_FindTeam.calls _ _ l0 a2 t244 _ ?side1 ?side2 A5.out).mono ?_); (case side1 => repeat (first | exact (Kd.C_below HR0.out HB.out) | (with_reducible refine Kd.C_alloc ?_ _) | (with_reducible refine Kd.C_drewN ?_ _) | (with_reducible refine Kd.C_drew ?_))); (case side2 => exact HC0.out); rintro e w12 ⟨rfl, hb⟩; refine ⟨_, rfl, ?_⟩; have n0_ := Aside0.mk (below_step (by repeat (first | (with_reducible first | exact HB.out | apply below_alloc | apply pw_below_drewN | apply below_drew1) | exact HB.out)) hb); clear HB; have HB := n0_; clear n0_; (try clear hb); (try clear hb2); (try clear hk); (try clear hi)))
 have n0_ := Aside0.mk (below_drew1 HB.out)
 clear HB
 have HB := n0_
 clear n0_
 refine start_ (n := 36) (S := fun w' => True) (ds := []) (bv 36 0) (by kernel_rfl) rfl rfl trivial (fun hHeld => ?_); refine with_tabW impl_MayMeet.tab2 impl_MayMeet.bits2 (fun HT_ HW_ => ?_)
 generalize w12.drew = w13 at HB hHeld ⊢
 refine pv_ 36 0 15 1 rfl rfl HT_ ?_
 refine one_ (i := 1) (N := some 16) (bv 36 3) rfl rfl (one_of HT_.out (by kernel_rfl)) (by decide) (fun K hK => ?_)
 refine goes_ Try.func21 (by kernel_rfl) rfl #[.slice A0 l0.length c0] (by rfl) rfl rfl (by (try simp only [List.map_toArray, List.map_cons, List.map_nil]); first | done | rfl | (simp only [List.length_drop, List.length_take]; rfl)) ?_
 with_reducible refine (impl_AreTeams.calls k _ _ l0 true _ ?side1 ?side2 A6.out).mono ?_
 (case side1 => repeat (first | exact (Kd.C_below HR0.out HB.out) | (with_reducible refine Kd.C_alloc ?_ _) | (with_reducible refine Kd.C_drewN ?_ _) | (with_reducible refine Kd.C_drew ?_)))
 (case side2 => exact HC0.out)
 rintro e w14 ⟨rfl, hb⟩
 refine ⟨_, rfl, ?_⟩
 have n0_ := Aside0.mk (below_step (by repeat (first | (with_reducible first | exact HB.out | apply below_alloc | apply pw_below_drewN | apply below_drew1) | exact HB.out)) hb)
 clear HB
 have HB := n0_
 clear n0_
 (try clear hb)
 (try clear hb2)
 (try clear hk)
 (try clear hi)
 refine hK.out _ _ trivial (fun hHeld => ?_)
 clear hK K
 refine nm_ 16 ?_
 refine pv_ 36 2 17 7 rfl rfl HT_ ?_; refine pv_ 36 3 18 15 rfl rfl HT_ ?_; refine pv_ 36 4 19 31 rfl rfl HT_ ?_; refine pv_ 36 5 20 63 rfl rfl HT_ ?_; refine pv_ 36 6 21 127 rfl rfl HT_ ?_; refine pv_ 36 7 22 255 rfl rfl HT_ ?_; refine pv_ 36 8 23 511 rfl rfl HT_ ?_; refine pv_ 36 9 24 1023 rfl rfl HT_ ?_; refine pv_ 36 10 25 2047 rfl rfl HT_ ?_; refine pv_ 36 11 26 4095 rfl rfl HT_ ?_; refine pv_ 36 12 27 8191 rfl rfl HT_ ?_; refine pv_ 36 13 28 16383 rfl rfl HT_ ?_; refine pv_ 36 14 29 32767 rfl rfl HT_ ?_; refine pv_ 36 15 30 65535 rfl rfl HT_ ?_; refine pu_ 36 16 31 131071 rfl rfl HT_ ?_; refine pu_ 36 17 32 262143 rfl rfl HT_ ?_; refine pu_ 36 18 33 524287 rfl rfl HT_ ?_; refine pu_ 36 19 34 1048575 rfl rfl HT_ ?_; refine pu_ 36 20 35 2097151 rfl rfl HT_ ?_; refine pu_ 36 21 36 4194303 rfl rfl HT_ ?_; refine pu_ 36 22 37 8388607 rfl rfl HT_ ?_; refine pu_ 36 23 38 16777215 rfl rfl HT_ ?_
 refine pu_ 36 24 39 33554431 rfl rfl HT_ ?_; refine pu_ 36 25 40 67108863 rfl rfl HT_ ?_; refine pu_ 36 26 41 134217727 rfl rfl HT_ ?_; refine pv_ 36 27 42 268435455 rfl rfl HT_ ?_; refine pv_ 36 28 43 536870911 rfl rfl HT_ ?_; refine pu_ 36 29 44 1073741823 rfl rfl HT_ ?_; refine pu_ 36 30 45 2147483647 rfl rfl HT_ ?_; refine pu_ 36 31 46 4294967295 rfl rfl HT_ ?_; refine pu_ 36 32 47 8589934591 rfl rfl HT_ ?_; refine pu_ 36 33 48 17179869183 rfl rfl HT_ ?_; refine pv_ 36 34 49 34359738367 rfl rfl HT_ ?_; refine pv_ 36 35 6 68719476735 rfl rfl HT_ ?_
 refine done_ (done_of HT_.out (by kernel_rfl)) ?_
 try go_wp2
 all_goals (go_ret; exact ⟨by first | rfl | (simp [errW_none, errW_some] <;> rfl) | (simp [*, errW_none, errW_some] <;> rfl), by repeat (first | (with_reducible first | exact HB.out | apply below_alloc | apply pw_below_drewN | apply below_drew1) | exact HB.out)⟩)
end Go.Proofs.Ytiimiogpiflkdaa.A
end

section
namespace Go.Proofs.Ytiimiogpiflkdaa.A
open Go.RowKit Go.Proofs.YtiimiogpiflkdaaW.PrintWords Go.Proofs.YtiimiogpiflkdaaW.PrintLast Go.Proofs.YtiimiogpiflkdaaW.PrintMore
attribute [local go_sem] max2_int min2_int max_two min_two max_three min_three max_four min_four   -- for this text's walks alone
set_option linter.unusedVariables false
set_option linter.unusedSimpArgs false
mutual
def impl_IsRound.l0 : Nat → List (S61) → List Int → List (S46) → Int → Int → Option (Bool)
  | 0, _, _, _, _, _ => none
  | k + 1, x0, x5, x11, x12, x13 => if x13 < x12 then (if 0 ≤ x13 then (if x13 < (x11.length : Int) then ((impl_MayMeet.f k x0 ((rd_T46 x11 x13).f0) ((rd_T46 x11 x13).f1)).bind fun t540 => (if t540 = true then ((some (([(rd_T46 x11 x13).f0, (rd_T46 x11 x13).f1] : List Int) : List Int)).bind fun y541 => (if x5.length + y541.length < 17592186044416 then (impl_IsRound.l0 k x0 (x5 ++ y541) x11 x12 (wrap64 (x13 + 1))) else (none))) else (some false))) else (none)) else (none)) else (impl_IsRound.l1 k x5 x0 (x0.length : Int) 0)
def impl_IsRound.l1 : Nat → List Int → List (S61) → Int → Int → Option (Bool)
  | 0, _, _, _, _ => none
  | k + 1, x5, x32, x33, x34 => if x34 < x33 then (if 0 ≤ x34 then (if x34 < (x32.length : Int) then ((impl_times.f k x5 ((rd_T61 x32 x34).f0)).bind fun t549 => (if t549 = 1 then (impl_IsRound.l1 k x5 x32 x33 (wrap64 (x34 + 1))) else (some false))) else (none)) else (none)) else (some true)
end
def impl_IsRound.f (k : Nat) (l0 : List (S61)) (l1 : List (S46)) : Option (Bool) := impl_IsRound.l0 k l0 (([] : List Int)) l1 (l1.length : Int) 0
set_option maxHeartbeats 8000000 in
set_option maxRecDepth 100000 in
theorem impl_IsRound.calls (k : Nat) (A0 : Option Addr) (c0 : Nat) (l0 : List (S61)) (A1 : Option Addr) (c1 : Nat) (l1 : List (S46)) (r : Bool) (w : World) (hr0 : Kd.C k61 w A0 l0.length l0) (hc0 : l0.length ≤ c0) (hr1 : Kd.C k46 w A1 l1.length l1) (hc1 : l1.length ≤ c1) (h : impl_IsRound.f k l0 l1 = some r) :
  Calls Try.prog 46 #[.slice A0 l0.length c0, .slice A1 l1.length c1] w fun e w' => e = .returned (.bool r) ∧ Below w.heap.size w w' := by
 have hu46 := Try.underlying46
 have hu61 := Try.underlying61
 have HR0 := Aside0.mk hr0
 have HC0 := Aside0.mk hc0
 clear hr0 hc0
 have HR1 := Aside0.mk hr1
 have HC1 := Aside0.mk hc1
 clear hr1 hc1
 have HB := Aside0.mk (Below.refl w.heap.size w)
 have H : (impl_IsRound.l0 k l0 (([] : List Int)) l1 (l1.length : Int) 0) = some r := h
 clear h
 obtain ⟨y535, hy535⟩ : ∃ y_ : List Int, y_ = (([] : List Int)) := ⟨_, rfl⟩
 replace H : (impl_IsRound.l0 k l0 y535 l1 (l1.length : Int) 0) = some r := by first | (rw [hy535]; with_reducible exact H) | (have H2_ := (Option.bind_some _ _).symm.trans H; rw [hy535]; with_reducible exact H2_) | (have H2_ := (Option.bind_some _ _).symm.trans H; with_reducible exact H2_) | with_reducible exact H | (rw [hy535]; exact H) | exact H
 have Ny535 := Aside0.mk hy535
 clear hy535
 have H' := Aside0.mk H
 clear H
 go_enter Try.func46, Try.ntmps46
 go_wp2_with (first | ((with_reducible refine gate_dst (N := 10) rfl ?_); refine Kd.R_lit (Kd.int .i64) _ 3 ?hg (N := 10) ?hd (xs := ([] : List Int)) (inner := []) (ok := fun _ => True) (okp := fun _ => True) ?hr ?hp (fun _ hk => hk) trivial (Below.refl _ _) (Nat.le_refl _) (by simp) ?_; (case hd => rfl); (case hg => rfl); (case hr => first | (go_simp; done) | (go_simp; rfl)); (case hp => exact (Reps.none _ _)); intro v536 w3 ho4 hb hg_ hnew_; clear hg_ hnew_; (first | rw [← Ny535.out] at ho4 | (simp only [Int.reduceToNat] at ho4; rw [← Ny535.out] at ho4)); have n0_ := Aside0.mk (Kd.R_lower ho4 (below_size (by repeat (first | (with_reducible first | exact HB.out | apply below_alloc | apply pw_below_drewN | apply below_drew1) | exact HB.out)))); have n1_ := Aside0.mk (below_step (by repeat (first | (with_reducible first | exact HB.out | apply below_alloc | apply pw_below_drewN | apply below_drew1) | exact HB.out)) hb); clear HB; have HO537 := n0_; have HB := n1_; clear n0_ n1_; clear hb ho4))
 go_loopg [5, 13] k (fun kq v5 v13 w' => ∃ (x5_1 : List Int) (x13_1 : Int), v13 = .int .i64 x13_1 ∧ Aside0 (impl_IsRound.l0 kq l0 x5_1 l1 (l1.length : Int) x13_1 = some r) ∧ Aside0 (kq ≤ k) ∧ Aside0 (Kd.R (Kd.int .i64) 3 w' w.heap.size (fun _ => True) v5 x5_1) ∧ Aside0 (Below w.heap.size w w'))
 case atStart => exact ⟨(y535), (0), (by first | rfl | (simp; done) | (simp [*]; done)), H', ⟨Nat.le_refl _⟩, ⟨by (with_reducible repeat (first | apply Kd.R_alloc | apply Kd.R_drewN | apply Kd.R_drew)); exact HO537.out⟩, ⟨by repeat (first | (with_reducible first | exact HB.out | apply below_alloc | apply pw_below_drewN | apply below_drew1) | exact HB.out)⟩⟩
 case round =>
  clear H'
  try clear c1
  try clear p2
  try clear c4
  obtain ⟨x5_1, x13_1, rfl, HA, HK1, HO_5, HB⟩ := hrel
  cases gk with
  | zero => exact absurd HA.out (by simp [impl_IsRound.l0])
  | succ k1 =>
   have H := HA.out
   clear HA
   simp only [impl_IsRound.l0] at H
   by_cases c5 : x13_1 < (l1.length : Int)
   rotate_left
   ·
    rw [if_neg c5] at H
    have c5b0 : decide (x13_1 < (l1.length : Int)) = false := decide_eq_false c5
    clear c5
    have H' := Aside0.mk H
    clear H
    go_wp2
    go_loopg [34] k1 (fun kq v34 w' => ∃ (x34_2 : Int), v34 = .int .i64 x34_2 ∧ Aside0 (impl_IsRound.l1 kq x5_1 l0 (l0.length : Int) x34_2 = some r) ∧ Aside0 (kq ≤ k1) ∧ Aside0 (Kd.R (Kd.int .i64) 3 w' w.heap.size (fun _ => True) u5 x5_1) ∧ Aside0 (Below w.heap.size w w'))
    case atStart => exact ⟨(0), (by first | rfl | (simp; done) | (simp [*]; done)), H', ⟨Nat.le_refl _⟩, ⟨by (with_reducible repeat (first | apply Kd.R_alloc | apply Kd.R_drewN | apply Kd.R_drew)); exact HO_5.out⟩, ⟨by repeat (first | (with_reducible first | exact HB.out | apply below_alloc | apply pw_below_drewN | apply below_drew1) | exact HB.out)⟩⟩
    case round =>
     clear H'
     try clear c1
     try clear c2
     try clear p2
     try clear c4
     try clear c5
     try clear c5b0
     try clear p5
     try clear q5
     try clear hx5
     try clear c6
     try clear c6b0
     try clear p6
     try clear c7
     try clear c7b0
     try clear c9
     try clear c10
     try clear hcz12_0
     try clear hcz12_1
     try clear hcz14_0
     try clear hcz14_1
     try clear hcz20_0
     try clear hcz20_1
     try clear hfz12_0
     try clear hfz12_1
     try clear hfz14_0
     try clear hfz14_1
     try clear hfz20_0
     try clear hfz20_1
     try clear hx538_0
     try clear hx538_1
     try clear p2
     try clear p538
     try clear q538
     obtain ⟨x34_2, rfl, HA, HK2, HO_5, HB⟩ := hrel
     cases gk with
     | zero => exact absurd HA.out (by simp [impl_IsRound.l1])
     | succ k2 =>
      have H := HA.out
      clear HA
      simp only [impl_IsRound.l1] at H
      by_cases c22 : x34_2 < (l0.length : Int)
      rotate_left
      ·
       rw [if_neg c22] at H
       have c22b0 : decide (x34_2 < (l0.length : Int)) = false := decide_eq_false c22
       clear c22
       obtain rfl := Option.some.inj H
       go_wp2
       go_ret
       exact ⟨by first | rfl | (simp [errW_none, errW_some] <;> rfl) | (simp [*, errW_none, errW_some] <;> rfl), by repeat (first | (with_reducible first | exact HB.out | apply below_alloc | apply pw_below_drewN | apply below_drew1) | exact HB.out)⟩

      rw [if_pos c22] at H
      have c22b0 : decide (x34_2 < (l0.length : Int)) = true := decide_eq_true c22
      clear c22
      by_cases c23 : 0 ≤ x34_2
      rotate_left
      ·
       rw [if_neg c23] at H
       exact absurd H (by simp)
      rw [if_pos c23] at H
      have c23b0 : decide (0 ≤ x34_2) = true := decide_eq_true c23
      clear c23
      by_cases c24 : x34_2 < (l0.length : Int)
      rotate_left
      ·
       rw [if_neg c24] at H
       exact absurd H (by simp)
      rw [if_pos c24] at H
      have c24b0 : decide (x34_2 < (l0.length : Int)) = true := decide_eq_true c24
      clear c24
      replace H := Option.bind_eq_some_iff.mp H
      obtain ⟨t549, A250, H⟩ := H
      replace H : (if t549 = 1 then (impl_IsRound.l1 k2 x5_1 l0 (l0.length : Int) (wrap64 (x34_2 + 1))) else (some false)) = some r := H
      have A25 := Aside0.mk A250
      clear A250
      by_cases c26 : t549 = 1
      rotate_left
      ·
       rw [if_neg c26] at H
       have c26b0 : (t549 == 1) = false := beq_eq_false_iff_ne.mpr c26
       have c26b1 : (t549 != 1) = true := bne_iff_ne.mpr c26
       obtain rfl := Option.some.inj H
       have p547 : 0 ≤ (x34_2 : Int) := of_decide_eq_true (by first | (with_reducible assumption) | assumption)
       have q547 : x34_2 < (l0.length : Int) := of_decide_eq_true (by first | (with_reducible assumption) | assumption)
       obtain ⟨ad547, A547_5, c547_5, e547, hx547_0, hx547_1, hx547_2, hx547_3, hx547_4, hx547_5, hl547_5, hi547_5⟩ := at_T61 HR0.out x34_2 p547 q547
       cases e547
       replace hx547_0 := (HB.out.cell (World.block_lt_of_cell? w _ hx547_0)).trans hx547_0
       replace hx547_1 := (HB.out.cell (World.block_lt_of_cell? w _ hx547_1)).trans hx547_1
       replace hx547_2 := (HB.out.cell (World.block_lt_of_cell? w _ hx547_2)).trans hx547_2
       replace hx547_3 := (HB.out.cell (World.block_lt_of_cell? w _ hx547_3)).trans hx547_3
       replace hx547_4 := (HB.out.cell (World.block_lt_of_cell? w _ hx547_4)).trans hx547_4
       replace hx547_5 := (HB.out.cell (World.block_lt_of_cell? w _ hx547_5)).trans hx547_5
       have HR547_5 := Aside0.mk hi547_5
       have HC547_5 := Aside0.mk hl547_5
       clear hi547_5 hl547_5
       replace p547 := eq_true p547
       replace q547 := eq_true q547
       go_wp2_with (first | ((with_reducible refine gate_dst (N := 9) rfl ?_); refine box_event ?hg (N := 9) ?hd (cs := #[.int .i64 0, .int .i64 0, .int .i64 0, .int .i64 0, .int .i64 0, .slice none 0 0]) (t := 61) ?hr ?_; (case hd => rfl); (case hg => rfl); (case hr => first | (go_simp; done) | (go_simp; rfl)); intro gb548 hg w30 hbox hb; have n0_ := Aside0.mk (Kd.R_below (by (with_reducible repeat (first | apply Kd.R_alloc | apply Kd.R_drewN | apply Kd.R_drew)); exact HO_5.out) hb); have n1_ := Aside0.mk (below_step (by repeat (first | (with_reducible first | exact HB.out | apply below_alloc | apply pw_below_drewN | apply below_drew1) | exact HB.out)) hb); have n2_ := Aside0.mk (hbox); have n3_ := Aside0.mk ((by rw [hg]; exact (below_size (by repeat (first | (with_reducible first | exact HB.out | apply below_alloc | apply pw_below_drewN | apply below_drew1) | exact HB.out))) : w.heap.size ≤ gb548)); have n4_ := Aside0.mk ((by rw [hg]; exact (below_size (by repeat (first | (with_reducible first | exact HB.out | apply below_alloc | apply pw_below_drewN | apply below_drew1) | exact HB.out))) : w.heap.size ≤ gb548)); clear HO_5; clear HB; have HO_5 := n0_; have HB := n1_; have BK548 := n2_; have GW548 := n3_; have GE548 := n4_; clear n0_ n1_ n2_ n3_ n4_; clear hb hbox hg; have hcz31_0 : w30.cell? ⟨gb548, 0, none⟩ = some (.int .i64 0) := (blk_cell BK548.out 0).trans rfl; have hcz31_1 : w30.cell? ⟨gb548, 1, none⟩ = some (.int .i64 0) := (blk_cell BK548.out 1).trans rfl; have hcz31_2 : w30.cell? ⟨gb548, 2, none⟩ = some (.int .i64 0) := (blk_cell BK548.out 2).trans rfl; have hcz31_3 : w30.cell? ⟨gb548, 3, none⟩ = some (.int .i64 0) := (blk_cell BK548.out 3).trans rfl; have hcz31_4 : w30.cell? ⟨gb548, 4, none⟩ = some (.int .i64 0) := (blk_cell BK548.out 4).trans rfl; have hcz31_5 : w30.cell? ⟨gb548, 5, none⟩ = some (.slice none 0 0) := (blk_cell BK548.out 5).trans rfl; have hfz31_0 := blk_frozen BK548.out 0; have hfz31_1 := blk_frozen BK548.out 1; have hfz31_2 := blk_frozen BK548.out 2; have hfz31_3 := blk_frozen BK548.out 3; have hfz31_4 := blk_frozen BK548.out 4; have hfz31_5 := blk_frozen BK548.out 5; obtain ⟨Ao32, co32, eo32⟩ := Kd.R_slice HO_5.out; subst eo32) | ((with_reducible refine gate_callee (f := 62) rfl ?_); refine goesL_ (some 41) rfl rfl Try.func62 (by kernel_rfl) rfl #[.slice Ao32 x5_1.length co32, .int .i64 ((rd_T61 l0 x34_2).f0)] rfl (by (try simp only [List.map_toArray, List.map_cons, List.map_nil]); first | done | rfl | (simp only [List.length_drop, List.length_take]; rfl)) ?_; (with_reducible refine (impl_times.calls k2 _ _ x5_1 ((rd_T61 l0 x34_2).f0) t549 _ ?side1 ?side2 A25.out).mono ?_); (case side1 => refine (Kd.R_reads' (e := 3) (base := w.heap.size) (ok := fun k_ => True) (n := x5_1.length) (c := co32) ?_).2.2; exact (by (with_reducible repeat (first | apply Kd.R_alloc | apply Kd.R_drewN | apply Kd.R_drew)); exact (Kd.R_mono (Kd.R_far (p := ⟨gb548, 5, none⟩) (Kd.R_far (p := ⟨gb548, 4, none⟩) (Kd.R_far (p := ⟨gb548, 3, none⟩) (Kd.R_far (p := ⟨gb548, 2, none⟩) (Kd.R_far (p := ⟨gb548, 1, none⟩) (Kd.R_far (p := ⟨gb548, 0, none⟩) (Kd.R_types HO_5.out BK548.out (by decide)) (fun _ hk => hk.2) (.int .i64 ((rd_T61 l0 x34_2).f0))) (fun _ hk => hk.2) (.int .i64 ((rd_T61 l0 x34_2).f1))) (fun _ hk => hk.2) (.int .i64 ((rd_T61 l0 x34_2).f2))) (fun _ hk => hk.2) (.int .i64 ((rd_T61 l0 x34_2).f3))) (fun _ hk => hk.2) (.int .i64 ((rd_T61 l0 x34_2).f4))) (fun _ hk => hk.2) (.slice A547_5 ((rd_T61 l0 x34_2).f5).length c547_5)) (fun _ h_ => h_.1)))); (case side2 => exact (Kd.R_reads' HO_5.out).2.1); rintro e w' ⟨rfl, ⟨nd, rfl⟩⟩; refine ⟨_, rfl, ?_⟩))
       go_ret
       exact ⟨by first | rfl | (simp [errW_none, errW_some] <;> rfl) | (simp [*, errW_none, errW_some] <;> rfl), by repeat (first | (with_reducible first | exact HB.out | apply below_alloc | apply pw_below_drewN | apply below_drew1 | refine below_set ?_ GE548.out) | exact HB.out)⟩
      rw [if_pos c26] at H
      have c26b0 : (t549 == 1) = true := beq_iff_eq.mpr c26
      have c26b1 : (t549 != 1) = false := bne_eq_false_iff_eq.mpr c26
      clear c26
      have H' := Aside0.mk H
      clear H
      have p547 : 0 ≤ (x34_2 : Int) := of_decide_eq_true (by first | (with_reducible assumption) | assumption)
      have q547 : x34_2 < (l0.length : Int) := of_decide_eq_true (by first | (with_reducible assumption) | assumption)
      obtain ⟨ad547, A547_5, c547_5, e547, hx547_0, hx547_1, hx547_2, hx547_3, hx547_4, hx547_5, hl547_5, hi547_5⟩ := at_T61 HR0.out x34_2 p547 q547
      cases e547
      replace hx547_0 := (HB.out.cell (World.block_lt_of_cell? w _ hx547_0)).trans hx547_0
      replace hx547_1 := (HB.out.cell (World.block_lt_of_cell? w _ hx547_1)).trans hx547_1
      replace hx547_2 := (HB.out.cell (World.block_lt_of_cell? w _ hx547_2)).trans hx547_2
      replace hx547_3 := (HB.out.cell (World.block_lt_of_cell? w _ hx547_3)).trans hx547_3
      replace hx547_4 := (HB.out.cell (World.block_lt_of_cell? w _ hx547_4)).trans hx547_4
      replace hx547_5 := (HB.out.cell (World.block_lt_of_cell? w _ hx547_5)).trans hx547_5
      have HR547_5 := Aside0.mk hi547_5
      have HC547_5 := Aside0.mk hl547_5
      clear hi547_5 hl547_5
      replace p547 := eq_true p547
      replace q547 := eq_true q547
      go_wp2_with (first | ((with_reducible refine gate_dst (N := 9) rfl ?_); refine box_event ?hg (N := 9) ?hd (cs := #[.int .i64 0, .int .i64 0, .int .i64 0, .int .i64 0, .int .i64 0, .slice none 0 0]) (t := 61) ?hr ?_; (case hd => rfl); (case hg => rfl); (case hr => first | (go_simp; done) | (go_simp; rfl)); intro gb548 hg w27 hbox hb; have n0_ := Aside0.mk (Kd.R_below (by (with_reducible repeat (first | apply Kd.R_alloc | apply Kd.R_drewN | apply Kd.R_drew)); exact HO_5.out) hb); have n1_ := Aside0.mk (below_step (by repeat (first | (with_reducible first | exact HB.out | apply below_alloc | apply pw_below_drewN | apply below_drew1) | exact HB.out)) hb); have n2_ := Aside0.mk (hbox); have n3_ := Aside0.mk ((by rw [hg]; exact (below_size (by repeat (first | (with_reducible first | exact HB.out | apply below_alloc | apply pw_below_drewN | apply below_drew1) | exact HB.out))) : w.heap.size ≤ gb548)); have n4_ := Aside0.mk ((by rw [hg]; exact (below_size (by repeat (first | (with_reducible first | exact HB.out | apply below_alloc | apply pw_below_drewN | apply below_drew1) | exact HB.out))) : w.heap.size ≤ gb548)); clear HO_5; clear HB; have HO_5 := n0_; have HB := n1_; have BK548 := n2_; have GW548 := n3_; have GE548 := n4_; clear n0_ n1_ n2_ n3_ n4_; clear hb hbox hg; have hcz28_0 : w27.cell? ⟨gb548, 0, none⟩ = some (.int .i64 0) := (blk_cell BK548.out 0).trans rfl; have hcz28_1 : w27.cell? ⟨gb548, 1, none⟩ = some (.int .i64 0) := (blk_cell BK548.out 1).trans rfl; have hcz28_2 : w27.cell? ⟨gb548, 2, none⟩ = some (.int .i64 0) := (blk_cell BK548.out 2).trans rfl; have hcz28_3 : w27.cell? ⟨gb548, 3, none⟩ = some (.int .i64 0) := (blk_cell BK548.out 3).trans rfl; have hcz28_4 : w27.cell? ⟨gb548, 4, none⟩ = some (.int .i64 0) := (blk_cell BK548.out 4).trans rfl; have hcz28_5 : w27.cell? ⟨gb548, 5, none⟩ = some (.slice none 0 0) := (blk_cell BK548.out 5).trans rfl; have hfz28_0 := blk_frozen BK548.out 0; have hfz28_1 := blk_frozen BK548.out 1; have hfz28_2 := blk_frozen BK548.out 2; have hfz28_3 := blk_frozen BK548.out 3; have hfz28_4 := blk_frozen BK548.out 4; have hfz28_5 := blk_frozen BK548.out 5; obtain ⟨Ao29, co29, eo29⟩ := Kd.R_slice HO_5.out; subst eo29) | ((with_reducible refine gate_callee (f := 62) rfl ?_); refine goesL_ (some 41) rfl rfl Try.func62 (by kernel_rfl) rfl #[.slice Ao29 x5_1.length co29, .int .i64 ((rd_T61 l0 x34_2).f0)] rfl (by (try simp only [List.map_toArray, List.map_cons, List.map_nil]); first | done | rfl | (simp only [List.length_drop, List.length_take]; rfl)) ?_; (with_reducible refine (impl_times.calls k2 _ _ x5_1 ((rd_T61 l0 x34_2).f0) t549 _ ?side1 ?side2 A25.out).mono ?_); (case side1 => refine (Kd.R_reads' (e := 3) (base := w.heap.size) (ok := fun k_ => True) (n := x5_1.length) (c := co29) ?_).2.2; exact (by (with_reducible repeat (first | apply Kd.R_alloc | apply Kd.R_drewN | apply Kd.R_drew)); exact (Kd.R_mono (Kd.R_far (p := ⟨gb548, 5, none⟩) (Kd.R_far (p := ⟨gb548, 4, none⟩) (Kd.R_far (p := ⟨gb548, 3, none⟩) (Kd.R_far (p := ⟨gb548, 2, none⟩) (Kd.R_far (p := ⟨gb548, 1, none⟩) (Kd.R_far (p := ⟨gb548, 0, none⟩) (Kd.R_types HO_5.out BK548.out (by decide)) (fun _ hk => hk.2) (.int .i64 ((rd_T61 l0 x34_2).f0))) (fun _ hk => hk.2) (.int .i64 ((rd_T61 l0 x34_2).f1))) (fun _ hk => hk.2) (.int .i64 ((rd_T61 l0 x34_2).f2))) (fun _ hk => hk.2) (.int .i64 ((rd_T61 l0 x34_2).f3))) (fun _ hk => hk.2) (.int .i64 ((rd_T61 l0 x34_2).f4))) (fun _ hk => hk.2) (.slice A547_5 ((rd_T61 l0 x34_2).f5).length c547_5)) (fun _ h_ => h_.1)))); (case side2 => exact (Kd.R_reads' HO_5.out).2.1); rintro e w' ⟨rfl, ⟨nd, rfl⟩⟩; refine ⟨_, rfl, ?_⟩))
      go_roundg k2
      case measure => have := HK1.out; have := HK2.out; omega
      case rel => exact ⟨(wrap64 (x34_2 + 1)), (by first | rfl | (simp; done) | (simp [*]; done)), H', ⟨by have := HK1.out; have := HK2.out; omega⟩, ⟨by (with_reducible repeat (first | apply Kd.R_alloc | apply Kd.R_drewN | apply Kd.R_drew)); exact Kd.R_mono (Kd.R_far (p := ⟨gb548, 5, none⟩) (Kd.R_far (p := ⟨gb548, 4, none⟩) (Kd.R_far (p := ⟨gb548, 3, none⟩) (Kd.R_far (p := ⟨gb548, 2, none⟩) (Kd.R_far (p := ⟨gb548, 1, none⟩) (Kd.R_far (p := ⟨gb548, 0, none⟩) (Kd.R_types HO_5.out BK548.out (by decide)) (fun _ hk => hk.2) (.int .i64 ((rd_T61 l0 x34_2).f0))) (fun _ hk => hk.2) (.int .i64 ((rd_T61 l0 x34_2).f1))) (fun _ hk => hk.2) (.int .i64 ((rd_T61 l0 x34_2).f2))) (fun _ hk => hk.2) (.int .i64 ((rd_T61 l0 x34_2).f3))) (fun _ hk => hk.2) (.int .i64 ((rd_T61 l0 x34_2).f4))) (fun _ hk => hk.2) (.slice A547_5 ((rd_T61 l0 x34_2).f5).length c547_5)) (fun _ hk => trivial)⟩, ⟨by repeat (first | (with_reducible first | exact HB.out | apply below_alloc | apply pw_below_drewN | apply below_drew1 | refine below_set ?_ GE548.out) | exact HB.out)⟩⟩
   rw [if_pos c5] at H
   have c5b0 : decide (x13_1 < (l1.length : Int)) = true := decide_eq_true c5
   clear c5
   by_cases c6 : 0 ≤ x13_1
   rotate_left
   ·
    rw [if_neg c6] at H
    exact absurd H (by simp)
   rw [if_pos c6] at H
   have c6b0 : decide (0 ≤ x13_1) = true := decide_eq_true c6
   clear c6
   by_cases c7 : x13_1 < (l1.length : Int)
   rotate_left
   ·
    rw [if_neg c7] at H
    exact absurd H (by simp)
   rw [if_pos c7] at H
   have c7b0 : decide (x13_1 < (l1.length : Int)) = true := decide_eq_true c7
   clear c7
   replace H := Option.bind_eq_some_iff.mp H
   obtain ⟨t540, A80, H⟩ := H
   replace H : (if t540 = true then ((some (([(rd_T46 l1 x13_1).f0, (rd_T46 l1 x13_1).f1] : List Int) : List Int)).bind fun y541 => (if x5_1.length + y541.length < 17592186044416 then (impl_IsRound.l0 k1 l0 (x5_1 ++ y541) l1 (l1.length : Int) (wrap64 (x13_1 + 1))) else (none))) else (some false)) = some r := H
   have A8 := Aside0.mk A80
   clear A80
   by_cases c9 : t540 = true
   rotate_left
   ·
    replace c9 := Bool.eq_false_iff.mpr c9
    subst c9
    have H1 : (some false) = some r := by rw [if_neg (show ¬ (false = true) by decide)] at H; exact H
    clear H
    have H := H1
    clear H1
    obtain rfl := Option.some.inj H
    have p538 : 0 ≤ (x13_1 : Int) := of_decide_eq_true (by first | (with_reducible assumption) | assumption)
    have q538 : x13_1 < (l1.length : Int) := of_decide_eq_true (by first | (with_reducible assumption) | assumption)
    obtain ⟨ad538, e538, hx538_0, hx538_1⟩ := at_T46 HR1.out x13_1 p538 q538
    cases e538
    replace hx538_0 := (HB.out.cell (World.block_lt_of_cell? w _ hx538_0)).trans hx538_0
    replace hx538_1 := (HB.out.cell (World.block_lt_of_cell? w _ hx538_1)).trans hx538_1
    replace p538 := eq_true p538
    replace q538 := eq_true q538
    go_wp2_with (first | ((with_reducible refine gate_dst (N := 7) rfl ?_); refine box_event ?hg (N := 7) ?hd (cs := #[.int .i64 0, .int .i64 0]) (t := 46) ?hr ?_; (case hd => rfl); (case hg => rfl); (case hr => first | (go_simp; done) | (go_simp; rfl)); intro gb539 hg w19 hbox hb; have n0_ := Aside0.mk (Kd.R_below (by (with_reducible repeat (first | apply Kd.R_alloc | apply Kd.R_drewN | apply Kd.R_drew)); exact HO_5.out) hb); have n1_ := Aside0.mk (below_step (by repeat (first | (with_reducible first | exact HB.out | apply below_alloc | apply pw_below_drewN | apply below_drew1) | exact HB.out)) hb); have n2_ := Aside0.mk (hbox); have n3_ := Aside0.mk ((by rw [hg]; exact (below_size (by repeat (first | (with_reducible first | exact HB.out | apply below_alloc | apply pw_below_drewN | apply below_drew1) | exact HB.out))) : w.heap.size ≤ gb539)); have n4_ := Aside0.mk ((by rw [hg]; exact (below_size (by repeat (first | (with_reducible first | exact HB.out | apply below_alloc | apply pw_below_drewN | apply below_drew1) | exact HB.out))) : w.heap.size ≤ gb539)); clear HO_5; clear HB; have HO_5 := n0_; have HB := n1_; have BK539 := n2_; have GW539 := n3_; have GE539 := n4_; clear n0_ n1_ n2_ n3_ n4_; clear hb hbox hg; have hcz20_0 : w19.cell? ⟨gb539, 0, none⟩ = some (.int .i64 0) := (blk_cell BK539.out 0).trans rfl; have hcz20_1 : w19.cell? ⟨gb539, 1, none⟩ = some (.int .i64 0) := (blk_cell BK539.out 1).trans rfl; have hfz20_0 := blk_frozen BK539.out 0; have hfz20_1 := blk_frozen BK539.out 1) | ((with_reducible refine gate_callee (f := 27) rfl ?_); refine goesL_ (some 22) rfl rfl Try.func27 (by kernel_rfl) rfl #[.slice A0 l0.length c0, .int .i64 ((rd_T46 l1 x13_1).f0), .int .i64 ((rd_T46 l1 x13_1).f1)] rfl (by (try simp only [List.map_toArray, List.map_cons, List.map_nil]); first | done | rfl | (simp only [List.length_drop, List.length_take]; rfl)) ?_; (with_reducible refine (impl_MayMeet.calls k1 _ _ l0 ((rd_T46 l1 x13_1).f0) ((rd_T46 l1 x13_1).f1) false _ ?side1 ?side2 A8.out).mono ?_); (case side1 => exact Kd.C_below HR0.out (by repeat (first | (with_reducible first | exact HB.out | apply below_alloc | apply pw_below_drewN | apply below_drew1 | refine below_set ?_ GE539.out) | exact HB.out))); (case side2 => exact HC0.out); rintro e w21 ⟨rfl, hb⟩; refine ⟨_, rfl, ?_⟩; have n0_ := Aside0.mk (Kd.R_below (by (with_reducible repeat (first | apply Kd.R_alloc | apply Kd.R_drewN | apply Kd.R_drew)); exact (Kd.R_mono (Kd.R_far (p := ⟨gb539, 1, none⟩) (Kd.R_far (p := ⟨gb539, 0, none⟩) (Kd.R_types HO_5.out BK539.out (by decide)) (fun _ hk => hk.2) (.int .i64 ((rd_T46 l1 x13_1).f0))) (fun _ hk => hk.2) (.int .i64 ((rd_T46 l1 x13_1).f1))) (fun _ h_ => h_.1))) hb); have n1_ := Aside0.mk (blk_below (g := gb539) (o := .cells #[.int .i64 ((rd_T46 l1 x13_1).f0), .int .i64 ((rd_T46 l1 x13_1).f1)] 46 (0, 0)) (by (with_reducible repeat (first | refine blk_drewN ?_ _ | refine blk_drew ?_ | refine blk_alloc ?_ _)); refine blk_put (cs := #[.int .i64 ((rd_T46 l1 x13_1).f0), .int .i64 0]) ?_ 1 _ rfl; (with_reducible repeat (first | refine blk_drewN ?_ _ | refine blk_drew ?_ | refine blk_alloc ?_ _)); refine blk_put (cs := #[.int .i64 0, .int .i64 0]) ?_ 0 _ rfl; (with_reducible repeat (first | refine blk_drewN ?_ _ | refine blk_drew ?_ | refine blk_alloc ?_ _)); exact BK539.out) hb); have n2_ := Aside0.mk (below_step (by repeat (first | (with_reducible first | exact HB.out | apply below_alloc | apply pw_below_drewN | apply below_drew1 | refine below_set ?_ GE539.out) | exact HB.out)) hb); clear HO_5; clear BK539; clear HB; have HO_5 := n0_; have BK539 := n1_; have HB := n2_; clear n0_ n1_ n2_; (try clear hb); (try clear hb2); (try clear hk); (try clear hi)))
    go_ret
    exact ⟨by first | rfl | (simp [errW_none, errW_some] <;> rfl) | (simp [*, errW_none, errW_some] <;> rfl), by repeat (first | (with_reducible first | exact HB.out | apply below_alloc | apply pw_below_drewN | apply below_drew1 | refine below_set ?_ GE539.out) | exact HB.out)⟩
   subst c9
   have H1 : ((some (([(rd_T46 l1 x13_1).f0, (rd_T46 l1 x13_1).f1] : List Int) : List Int)).bind fun y541 => (if x5_1.length + y541.length < 17592186044416 then (impl_IsRound.l0 k1 l0 (x5_1 ++ y541) l1 (l1.length : Int) (wrap64 (x13_1 + 1))) else (none))) = some r := by rw [if_pos rfl] at H; exact H
   clear H
   have H := H1
   clear H1
   obtain ⟨y541, hy541⟩ : ∃ y_ : List Int, y_ = (([(rd_T46 l1 x13_1).f0, (rd_T46 l1 x13_1).f1] : List Int)) := ⟨_, rfl⟩
   replace H : (if x5_1.length + y541.length < 17592186044416 then (impl_IsRound.l0 k1 l0 (x5_1 ++ y541) l1 (l1.length : Int) (wrap64 (x13_1 + 1))) else (none)) = some r := by first | (rw [hy541]; with_reducible exact H) | (have H2_ := (Option.bind_some _ _).symm.trans H; rw [hy541]; with_reducible exact H2_) | (have H2_ := (Option.bind_some _ _).symm.trans H; with_reducible exact H2_) | with_reducible exact H | (rw [hy541]; exact H) | exact H
   have Ny541 := Aside0.mk hy541
   clear hy541
   by_cases c10 : x5_1.length + y541.length < 17592186044416
   rotate_left
   ·
    rw [if_neg c10] at H
    exact absurd H (by simp)
   rw [if_pos c10] at H
   have LMc10 := Aside0.mk c10
   clear c10
   obtain ⟨y544, hy544⟩ : ∃ y_ : List Int, y_ = (x5_1 ++ y541) := ⟨_, rfl⟩
   replace H : (impl_IsRound.l0 k1 l0 y544 l1 (l1.length : Int) (wrap64 (x13_1 + 1))) = some r := by first | (rw [hy544]; with_reducible exact H) | (have H2_ := (Option.bind_some _ _).symm.trans H; rw [hy544]; with_reducible exact H2_) | (have H2_ := (Option.bind_some _ _).symm.trans H; with_reducible exact H2_) | with_reducible exact H | (rw [hy544]; exact H) | exact H
   have Ny544 := Aside0.mk hy544
   clear hy544
   have H' := Aside0.mk H
   clear H
   have p538 : 0 ≤ (x13_1 : Int) := of_decide_eq_true (by first | (with_reducible assumption) | assumption)
   have q538 : x13_1 < (l1.length : Int) := of_decide_eq_true (by first | (with_reducible assumption) | assumption)
   obtain ⟨ad538, e538, hx538_0, hx538_1⟩ := at_T46 HR1.out x13_1 p538 q538
   cases e538
   replace hx538_0 := (HB.out.cell (World.block_lt_of_cell? w _ hx538_0)).trans hx538_0
   replace hx538_1 := (HB.out.cell (World.block_lt_of_cell? w _ hx538_1)).trans hx538_1
   replace p538 := eq_true p538
   replace q538 := eq_true q538
   go_wp2_with (first | ((with_reducible refine gate_dst (N := 7) rfl ?_); refine box_event ?hg (N := 7) ?hd (cs := #[.int .i64 0, .int .i64 0]) (t := 46) ?hr ?_; (case hd => rfl); (case hg => rfl); (case hr => first | (go_simp; done) | (go_simp; rfl)); intro gb539 hg w11 hbox hb; have n0_ := Aside0.mk (Kd.R_below (by (with_reducible repeat (first | apply Kd.R_alloc | apply Kd.R_drewN | apply Kd.R_drew)); exact HO_5.out) hb); have n1_ := Aside0.mk (below_step (by repeat (first | (with_reducible first | exact HB.out | apply below_alloc | apply pw_below_drewN | apply below_drew1) | exact HB.out)) hb); have n2_ := Aside0.mk (hbox); have n3_ := Aside0.mk ((by rw [hg]; exact (below_size (by repeat (first | (with_reducible first | exact HB.out | apply below_alloc | apply pw_below_drewN | apply below_drew1) | exact HB.out))) : w.heap.size ≤ gb539)); have n4_ := Aside0.mk ((by rw [hg]; exact (below_size (by repeat (first | (with_reducible first | exact HB.out | apply below_alloc | apply pw_below_drewN | apply below_drew1) | exact HB.out))) : w.heap.size ≤ gb539)); clear HO_5; clear HB; have HO_5 := n0_; have HB := n1_; have BK539 := n2_; have GW539 := n3_; have GE539 := n4_; clear n0_ n1_ n2_ n3_ n4_; clear hb hbox hg; have hcz12_0 : w11.cell? ⟨gb539, 0, none⟩ = some (.int .i64 0) := (blk_cell BK539.out 0).trans rfl; have hcz12_1 : w11.cell? ⟨gb539, 1, none⟩ = some (.int .i64 0) := (blk_cell BK539.out 1).trans rfl; have hfz12_0 := blk_frozen BK539.out 0; have hfz12_1 := blk_frozen BK539.out 1) | ((with_reducible refine gate_callee (f := 27) rfl ?_); refine goesL_ (some 22) rfl rfl Try.func27 (by kernel_rfl) rfl #[.slice A0 l0.length c0, .int .i64 ((rd_T46 l1 x13_1).f0), .int .i64 ((rd_T46 l1 x13_1).f1)] rfl (by (try simp only [List.map_toArray, List.map_cons, List.map_nil]); first | done | rfl | (simp only [List.length_drop, List.length_take]; rfl)) ?_; (with_reducible refine (impl_MayMeet.calls k1 _ _ l0 ((rd_T46 l1 x13_1).f0) ((rd_T46 l1 x13_1).f1) true _ ?side1 ?side2 A8.out).mono ?_); (case side1 => exact Kd.C_below HR0.out (by repeat (first | (with_reducible first | exact HB.out | apply below_alloc | apply pw_below_drewN | apply below_drew1 | refine below_set ?_ GE539.out) | exact HB.out))); (case side2 => exact HC0.out); rintro e w13 ⟨rfl, hb⟩; refine ⟨_, rfl, ?_⟩; have n0_ := Aside0.mk (Kd.R_below (by (with_reducible repeat (first | apply Kd.R_alloc | apply Kd.R_drewN | apply Kd.R_drew)); exact (Kd.R_mono (Kd.R_far (p := ⟨gb539, 1, none⟩) (Kd.R_far (p := ⟨gb539, 0, none⟩) (Kd.R_types HO_5.out BK539.out (by decide)) (fun _ hk => hk.2) (.int .i64 ((rd_T46 l1 x13_1).f0))) (fun _ hk => hk.2) (.int .i64 ((rd_T46 l1 x13_1).f1))) (fun _ h_ => h_.1))) hb); have n1_ := Aside0.mk (blk_below (g := gb539) (o := .cells #[.int .i64 ((rd_T46 l1 x13_1).f0), .int .i64 ((rd_T46 l1 x13_1).f1)] 46 (0, 0)) (by (with_reducible repeat (first | refine blk_drewN ?_ _ | refine blk_drew ?_ | refine blk_alloc ?_ _)); refine blk_put (cs := #[.int .i64 ((rd_T46 l1 x13_1).f0), .int .i64 0]) ?_ 1 _ rfl; (with_reducible repeat (first | refine blk_drewN ?_ _ | refine blk_drew ?_ | refine blk_alloc ?_ _)); refine blk_put (cs := #[.int .i64 0, .int .i64 0]) ?_ 0 _ rfl; (with_reducible repeat (first | refine blk_drewN ?_ _ | refine blk_drew ?_ | refine blk_alloc ?_ _)); exact BK539.out) hb); have n2_ := Aside0.mk (below_step (by repeat (first | (with_reducible first | exact HB.out | apply below_alloc | apply pw_below_drewN | apply below_drew1 | refine below_set ?_ GE539.out) | exact HB.out)) hb); clear HO_5; clear BK539; clear HB; have HO_5 := n0_; have BK539 := n1_; have HB := n2_; clear n0_ n1_ n2_; (try clear hb); (try clear hb2); (try clear hk); (try clear hi); have hcz14_0 : w13.cell? ⟨gb539, 0, none⟩ = some (.int .i64 ((rd_T46 l1 x13_1).f0)) := (blk_cell BK539.out 0).trans rfl; have hcz14_1 : w13.cell? ⟨gb539, 1, none⟩ = some (.int .i64 ((rd_T46 l1 x13_1).f1)) := (blk_cell BK539.out 1).trans rfl; have hfz14_0 := blk_frozen BK539.out 0; have hfz14_1 := blk_frozen BK539.out 1) | ((with_reducible refine gate_dst (N := 29) rfl ?_); refine Kd.R_lit (Kd.int .i64) _ 3 ?hg (N := 29) ?hd (xs := ([(rd_T46 l1 x13_1).f0, (rd_T46 l1 x13_1).f1] : List Int)) (inner := [.int .i64 ((rd_T46 l1 x13_1).f0), .int .i64 ((rd_T46 l1 x13_1).f1)]) (ok := fun _ => True) (okp := fun _ => True) ?hr ?hp (fun _ hk => hk) trivial (Below.refl _ _) (Nat.le_refl _) (by simp) ?_; (case hd => rfl); (case hg => rfl); (case hr => first | (go_simp; done) | (go_simp; rfl)); (case hp => exact (Reps.one (show Kd.M (Kd.int .i64) _ _ _ ((rd_T46 l1 x13_1).f0) [.int .i64 ((rd_T46 l1 x13_1).f0)] from rfl) (Reps.one (show Kd.M (Kd.int .i64) _ _ _ ((rd_T46 l1 x13_1).f1) [.int .i64 ((rd_T46 l1 x13_1).f1)] from rfl) (Reps.none _ _)))); intro v542 w15 ho16 hb hg_ hnew_; clear hg_ hnew_; (first | rw [← Ny541.out] at ho16 | (simp only [Int.reduceToNat] at ho16; rw [← Ny541.out] at ho16)); have n0_ := Aside0.mk (Kd.R_elder' (by (with_reducible repeat (first | apply Kd.R_alloc | apply Kd.R_drewN | apply Kd.R_drew)); exact HO_5.out) (Kd.R_base ho16) hb); have n1_ := Aside0.mk (Kd.R_lower (Kd.R_new' ho16 (Kd.R_lt (by (with_reducible repeat (first | apply Kd.R_alloc | apply Kd.R_drewN | apply Kd.R_drew)); exact HO_5.out))) (below_size (by repeat (first | (with_reducible first | exact HB.out | apply below_alloc | apply pw_below_drewN | apply below_drew1 | refine below_set ?_ GE539.out) | exact HB.out)))); have n2_ := Aside0.mk (blk_below (g := gb539) (o := .cells #[.int .i64 ((rd_T46 l1 x13_1).f0), .int .i64 ((rd_T46 l1 x13_1).f1)] 46 (0, 0)) (by (with_reducible repeat (first | refine blk_drewN ?_ _ | refine blk_drew ?_ | refine blk_alloc ?_ _)); exact BK539.out) hb); have n3_ := Aside0.mk (below_step (by repeat (first | (with_reducible first | exact HB.out | apply below_alloc | apply pw_below_drewN | apply below_drew1 | refine below_set ?_ GE539.out) | exact HB.out)) hb); clear HO_5; clear BK539; clear HB; have HO_5 := n0_; have HO543 := n1_; have BK539 := n2_; have HB := n3_; clear n0_ n1_ n2_ n3_; clear hb ho16; obtain ⟨Ao18, co18, eo18⟩ := Kd.R_slice HO543.out; subst eo18) | ((with_reducible refine gate_builtin (b := .append) (xs := #[.tmp 24, .tmp 29]) rfl ?_); at_builtin; refine Kd.R_append_rows (Kd.int .i64) (w0 := w) w.heap.size rfl (.tmp 24) (.tmp 29) 41 3 (.int .i64 0) 8 rfl Try.underlying41 info3 rfl (by decide) (by omega) u5 x5_1 y541 _ _ _ (fun k_ => some k_ ≠ (.slice Ao18 y541.length co18 : Value).ownBlock) (fun _ => False) rfl rfl ?aO ?aR (fun _ _ h => h) (fun _ h => h.elim) ?aF ?aB ?aS ?aL ?_; (case aR => repeat (first | exact (Kd.R_reads' HO543.out).2.2 | (with_reducible refine Kd.C_alloc ?_ _) | (with_reducible refine Kd.C_drewN ?_ _) | (with_reducible refine Kd.C_drew ?_))); (case aB => exact (by repeat (first | (with_reducible first | exact HB.out | apply below_alloc | apply pw_below_drewN | apply below_drew1 | refine below_set ?_ GE539.out) | exact HB.out))); (case aF => exact (fun k_ hk => Kd.fresh' (Kd.R_lt (by (with_reducible repeat (first | apply Kd.R_alloc | apply Kd.R_drewN | apply Kd.R_drew)); exact HO543.out)) k_ hk)); (case aO => exact (by (with_reducible repeat (first | apply Kd.R_alloc | apply Kd.R_drewN | apply Kd.R_drew)); exact Kd.R_mono HO_5.out (fun _ hk => hk.2))); (case aS => exact (below_size (by repeat (first | (with_reducible first | exact HB.out | apply below_alloc | apply pw_below_drewN | apply below_drew1 | refine below_set ?_ GE539.out) | exact HB.out)))); (case aL => have := LMc10.out; omega); intro v545 w17 ho hb hg hat; rw [← Ny544.out] at ho; have n0_ := Aside0.mk (blk_grown (g := gb539) (o := .cells #[.int .i64 ((rd_T46 l1 x13_1).f0), .int .i64 ((rd_T46 l1 x13_1).f1)] 46 (0, 0)) (by (with_reducible repeat (first | refine blk_drewN ?_ _ | refine blk_drew ?_ | refine blk_alloc ?_ _)); exact BK539.out) hg (Kd.R_ne HO_5.out BK539.out (by decide))); have n1_ := Aside0.mk (Kd.R_after (ok := (fun _ => True)) (by (with_reducible repeat (first | apply Kd.R_alloc | apply Kd.R_drewN | apply Kd.R_drew)); exact HO543.out) hg hat); have n2_ := Aside0.mk (hb); have n3_ := Aside0.mk (ho); clear BK539; clear HO543; clear HB; clear HO_5; have BK539 := n0_; have HO543 := n1_; have HB := n2_; have HO546 := n3_; clear n0_ n1_ n2_ n3_; clear ho hb hg hat))
   go_roundg k1
   case measure => have := HK1.out; omega
   case rel => exact ⟨(y544), (wrap64 (x13_1 + 1)), (by first | rfl | (simp; done) | (simp [*]; done)), H', ⟨by have := HK1.out; omega⟩, ⟨by (with_reducible repeat (first | apply Kd.R_alloc | apply Kd.R_drewN | apply Kd.R_drew)); exact Kd.R_mono HO546.out (fun _ hk => trivial)⟩, ⟨by repeat (first | (with_reducible first | exact HB.out | apply below_alloc | apply pw_below_drewN | apply below_drew1 | refine below_set ?_ GE539.out) | exact HB.out)⟩⟩
end Go.Proofs.Ytiimiogpiflkdaa.A
end

section
namespace Go.Proofs.Ytiimiogpiflkdaa.A
open Go.RowKit Go.Proofs.YtiimiogpiflkdaaW.PrintWords Go.Proofs.YtiimiogpiflkdaaW.PrintLast Go.Proofs.YtiimiogpiflkdaaW.PrintMore
attribute [local go_sem] max2_int min2_int max_two min_two max_three min_three max_four min_four   -- for this text's walks alone
set_option linter.unusedVariables false
set_option linter.unusedSimpArgs false
def laws_FnExactIsRound.f (k : Nat) (l0 : List (S64)) (l1 : List (S73)) : Option (Bool) := (laws_szTeamS.f k l0 1048576).bind fun t550 => (if t550 < 0 then (some true) else ((laws_szPairS.f l1 t550).bind fun t551 => (if t551 < 0 then (some true) else ((laws_toTeamS.f k l0).bind fun t552 => ((laws_toPairS.f k l1).bind fun t555 => ((spec_IsRound.f k t552 t555).bind fun t558 => ((laws_toTeamS.f k l0).bind fun t559 => ((laws_toPairS.f k l1).bind fun t562 => ((impl_IsRound.f k t559 t562).bind fun t565 => (if (t565 != t558) = true then (some false) else ((laws_toTeamS.f k l0).bind fun t566 => ((laws_eqTeamS.f k t559 t566).bind fun t569 => (if t569 = true then ((laws_toPairS.f k l1).bind fun t570 => ((laws_eqPairS.f k t562 t570).bind fun t573 => (if t573 = true then (some true) else (some false)))) else (some false))))))))))))))
set_option maxHeartbeats 8000000 in
set_option maxRecDepth 100000 in
theorem laws_FnExactIsRound.calls (k : Nat) (A0 : Option Addr) (c0 : Nat) (l0 : List (S64)) (A1 : Option Addr) (c1 : Nat) (l1 : List (S73)) (r : Bool) (w : World) (hr0 : Kd.C k64 w A0 l0.length l0) (hc0 : l0.length ≤ c0) (hr1 : Kd.C k73 w A1 l1.length l1) (hc1 : l1.length ≤ c1) (h : laws_FnExactIsRound.f k l0 l1 = some r) :
  Calls Try.prog 12 #[.slice A0 l0.length c0, .slice A1 l1.length c1] w fun e w' => e = .returned (.bool r) ∧ Below w.heap.size w w' := by
 have HR0 := Aside0.mk hr0
 have HC0 := Aside0.mk hc0
 clear hr0 hc0
 have HR1 := Aside0.mk hr1
 have HC1 := Aside0.mk hc1
 clear hr1 hc1
 have HB := Aside0.mk (Below.refl w.heap.size w)
 have H : ((laws_szTeamS.f k l0 1048576).bind fun t550 => (if t550 < 0 then (some true) else ((laws_szPairS.f l1 t550).bind fun t551 => (if t551 < 0 then (some true) else ((laws_toTeamS.f k l0).bind fun t552 => ((laws_toPairS.f k l1).bind fun t555 => ((spec_IsRound.f k t552 t555).bind fun t558 => ((laws_toTeamS.f k l0).bind fun t559 => ((laws_toPairS.f k l1).bind fun t562 => ((impl_IsRound.f k t559 t562).bind fun t565 => (if (t565 != t558) = true then (some false) else ((laws_toTeamS.f k l0).bind fun t566 => ((laws_eqTeamS.f k t559 t566).bind fun t569 => (if t569 = true then ((laws_toPairS.f k l1).bind fun t570 => ((laws_eqPairS.f k t562 t570).bind fun t573 => (if t573 = true then (some true) else (some false)))) else (some false))))))))))))))) = some r := h
 clear h
 replace H := Option.bind_eq_some_iff.mp H
 obtain ⟨t550, A30, H⟩ := H
 replace H : (if t550 < 0 then (some true) else ((laws_szPairS.f l1 t550).bind fun t551 => (if t551 < 0 then (some true) else ((laws_toTeamS.f k l0).bind fun t552 => ((laws_toPairS.f k l1).bind fun t555 => ((spec_IsRound.f k t552 t555).bind fun t558 => ((laws_toTeamS.f k l0).bind fun t559 => ((laws_toPairS.f k l1).bind fun t562 => ((impl_IsRound.f k t559 t562).bind fun t565 => (if (t565 != t558) = true then (some false) else ((laws_toTeamS.f k l0).bind fun t566 => ((laws_eqTeamS.f k t559 t566).bind fun t569 => (if t569 = true then ((laws_toPairS.f k l1).bind fun t570 => ((laws_eqPairS.f k t562 t570).bind fun t573 => (if t573 = true then (some true) else (some false)))) else (some false)))))))))))))) = some r := H
 have A3 := Aside0.mk A30
 clear A30
 by_cases c4 : t550 < 0
 ·
  rw [if_pos c4] at H
  have c4b0 : decide (t550 < 0) = true := decide_eq_true c4
  clear c4
  obtain rfl := Option.some.inj H
  go_enter Try.func12, Try.ntmps12
  go_wp2_with (first | ((with_reducible refine gate_callee (f := 15) rfl ?_); refine goesL_ (some 12) rfl rfl Try.func15 (by kernel_rfl) rfl #[.slice A0 l0.length c0, .int .i64 1048576] rfl (by (try simp only [List.map_toArray, List.map_cons, List.map_nil]); first | done | rfl | (simp only [List.length_drop, List.length_take]; rfl)) ?_; (with_reducible refine (laws_szTeamS.calls k _ _ l0 1048576 t550 _ ?side1 ?side2 A3.out).mono ?_); (case side1 => repeat (first | exact HR0.out | (with_reducible refine Kd.C_alloc ?_ _) | (with_reducible refine Kd.C_drewN ?_ _) | (with_reducible refine Kd.C_drew ?_))); (case side2 => exact HC0.out); rintro e w5 ⟨rfl, hb⟩; refine ⟨_, rfl, ?_⟩; have n0_ := Aside0.mk (below_step (by repeat (first | (with_reducible first | exact HB.out | apply below_alloc | apply pw_below_drewN | apply below_drew1) | exact HB.out)) hb); clear HB; have HB := n0_; clear n0_; (try clear hb); (try clear hb2); (try clear hk); (try clear hi)))
  go_ret
  exact ⟨by first | rfl | (simp [errW_none, errW_some] <;> rfl) | (simp [*, errW_none, errW_some] <;> rfl), by repeat (first | (with_reducible first | exact HB.out | apply below_alloc | apply pw_below_drewN | apply below_drew1) | exact HB.out)⟩
 ·
  rw [if_neg c4] at H
  have c4b0 : decide (t550 < 0) = false := decide_eq_false c4
  clear c4
  replace H := Option.bind_eq_some_iff.mp H
  obtain ⟨t551, A60, H⟩ := H
  replace H : (if t551 < 0 then (some true) else ((laws_toTeamS.f k l0).bind fun t552 => ((laws_toPairS.f k l1).bind fun t555 => ((spec_IsRound.f k t552 t555).bind fun t558 => ((laws_toTeamS.f k l0).bind fun t559 => ((laws_toPairS.f k l1).bind fun t562 => ((impl_IsRound.f k t559 t562).bind fun t565 => (if (t565 != t558) = true then (some false) else ((laws_toTeamS.f k l0).bind fun t566 => ((laws_eqTeamS.f k t559 t566).bind fun t569 => (if t569 = true then ((laws_toPairS.f k l1).bind fun t570 => ((laws_eqPairS.f k t562 t570).bind fun t573 => (if t573 = true then (some true) else (some false)))) else (some false)))))))))))) = some r := H
  have A6 := Aside0.mk A60
  clear A60
  by_cases c7 : t551 < 0
  ·
   rw [if_pos c7] at H
   have c7b0 : decide (t551 < 0) = true := decide_eq_true c7
   clear c7
   obtain rfl := Option.some.inj H
   go_enter Try.func12, Try.ntmps12
   go_wp2_with (first | ((with_reducible refine gate_callee (f := 15) rfl ?_); refine goesL_ (some 12) rfl rfl Try.func15 (by kernel_rfl) rfl #[.slice A0 l0.length c0, .int .i64 1048576] rfl (by (try simp only [List.map_toArray, List.map_cons, List.map_nil]); first | done | rfl | (simp only [List.length_drop, List.length_take]; rfl)) ?_; (with_reducible refine (laws_szTeamS.calls k _ _ l0 1048576 t550 _ ?side1 ?side2 A3.out).mono ?_); (case side1 => repeat (first | exact HR0.out | (with_reducible refine Kd.C_alloc ?_ _) | (with_reducible refine Kd.C_drewN ?_ _) | (with_reducible refine Kd.C_drew ?_))); (case side2 => exact HC0.out); rintro e w8 ⟨rfl, hb⟩; refine ⟨_, rfl, ?_⟩; have n0_ := Aside0.mk (below_step (by repeat (first | (with_reducible first | exact HB.out | apply below_alloc | apply pw_below_drewN | apply below_drew1) | exact HB.out)) hb); clear HB; have HB := n0_; clear n0_; (try clear hb); (try clear hb2); (try clear hk); (try clear hi)) | ((with_reducible refine gate_callee (f := 28) rfl ?_); refine goesL_ (some 17) rfl rfl Try.func28 (by kernel_rfl) rfl #[.slice A1 l1.length c1, .int .i64 t550] rfl (by (try simp only [List.map_toArray, List.map_cons, List.map_nil]); first | done | rfl | (simp only [List.length_drop, List.length_take]; rfl)) ?_; (with_reducible refine (laws_szPairS.calls _ _ l1 t550 t551 _ ?side1 ?side2 A6.out).mono ?_); (case side1 => repeat (first | exact (Kd.C_below HR1.out HB.out) | (with_reducible refine Kd.C_alloc ?_ _) | (with_reducible refine Kd.C_drewN ?_ _) | (with_reducible refine Kd.C_drew ?_))); (case side2 => exact HC1.out); rintro e w' ⟨rfl, ⟨nd, rfl⟩⟩; refine ⟨_, rfl, ?_⟩))
   go_ret
   exact ⟨by first | rfl | (simp [errW_none, errW_some] <;> rfl) | (simp [*, errW_none, errW_some] <;> rfl), by repeat (first | (with_reducible first | exact HB.out | apply below_alloc | apply pw_below_drewN | apply below_drew1) | exact HB.out)⟩
  ·
   rw [if_neg c7] at H
   have c7b0 : decide (t551 < 0) = false := decide_eq_false c7
   clear c7
   replace H := Option.bind_eq_some_iff.mp H
   obtain ⟨t552, A90, H⟩ := H
   replace H : ((laws_toPairS.f k l1).bind fun t555 => ((spec_IsRound.f k t552 t555).bind fun t558 => ((laws_toTeamS.f k l0).bind fun t559 => ((laws_toPairS.f k l1).bind fun t562 => ((impl_IsRound.f k t559 t562).bind fun t565 => (if (t565 != t558) = true then (some false) else ((laws_toTeamS.f k l0).bind fun t566 => ((laws_eqTeamS.f k t559 t566).bind fun t569 => (if t569 = true then ((laws_toPairS.f k l1).bind fun t570 => ((laws_eqPairS.f k t562 t570).bind fun t573 => (if t573 = true then (some true) else (some false)))) else (some false)))))))))) = some r := H
   have A9 := Aside0.mk A90
   clear A90
   replace H := Option.bind_eq_some_iff.mp H
   obtain ⟨t555, A100, H⟩ := H
   replace H : ((spec_IsRound.f k t552 t555).bind fun t558 => ((laws_toTeamS.f k l0).bind fun t559 => ((laws_toPairS.f k l1).bind fun t562 => ((impl_IsRound.f k t559 t562).bind fun t565 => (if (t565 != t558) = true then (some false) else ((laws_toTeamS.f k l0).bind fun t566 => ((laws_eqTeamS.f k t559 t566).bind fun t569 => (if t569 = true then ((laws_toPairS.f k l1).bind fun t570 => ((laws_eqPairS.f k t562 t570).bind fun t573 => (if t573 = true then (some true) else (some false)))) else (some false))))))))) = some r := H
   have A10 := Aside0.mk A100
   clear A100
   replace H := Option.bind_eq_some_iff.mp H
   obtain ⟨t558, A110, H⟩ := H
   replace H : ((laws_toTeamS.f k l0).bind fun t559 => ((laws_toPairS.f k l1).bind fun t562 => ((impl_IsRound.f k t559 t562).bind fun t565 => (if (t565 != t558) = true then (some false) else ((laws_toTeamS.f k l0).bind fun t566 => ((laws_eqTeamS.f k t559 t566).bind fun t569 => (if t569 = true then ((laws_toPairS.f k l1).bind fun t570 => ((laws_eqPairS.f k t562 t570).bind fun t573 => (if t573 = true then (some true) else (some false)))) else (some false)))))))) = some r := H
   have A11 := Aside0.mk A110
   clear A110
   replace H := Option.bind_eq_some_iff.mp H
   obtain ⟨t559, A120, H⟩ := H
   replace H : ((laws_toPairS.f k l1).bind fun t562 => ((impl_IsRound.f k t559 t562).bind fun t565 => (if (t565 != t558) = true then (some false) else ((laws_toTeamS.f k l0).bind fun t566 => ((laws_eqTeamS.f k t559 t566).bind fun t569 => (if t569 = true then ((laws_toPairS.f k l1).bind fun t570 => ((laws_eqPairS.f k t562 t570).bind fun t573 => (if t573 = true then (some true) else (some false)))) else (some false))))))) = some r := H
   have A12 := Aside0.mk A120
   clear A120
   replace H := Option.bind_eq_some_iff.mp H
   obtain ⟨t562, A130, H⟩ := H
   replace H : ((impl_IsRound.f k t559 t562).bind fun t565 => (if (t565 != t558) = true then (some false) else ((laws_toTeamS.f k l0).bind fun t566 => ((laws_eqTeamS.f k t559 t566).bind fun t569 => (if t569 = true then ((laws_toPairS.f k l1).bind fun t570 => ((laws_eqPairS.f k t562 t570).bind fun t573 => (if t573 = true then (some true) else (some false)))) else (some false)))))) = some r := H
   have A13 := Aside0.mk A130
   clear A130
   replace H := Option.bind_eq_some_iff.mp H
   obtain ⟨t565, A140, H⟩ := H
   replace H : (if (t565 != t558) = true then (some false) else ((laws_toTeamS.f k l0).bind fun t566 => ((laws_eqTeamS.f k t559 t566).bind fun t569 => (if t569 = true then ((laws_toPairS.f k l1).bind fun t570 => ((laws_eqPairS.f k t562 t570).bind fun t573 => (if t573 = true then (some true) else (some false)))) else (some false))))) = some r := H
   have A14 := Aside0.mk A140
   clear A140
   by_cases c15 : (t565 != t558) = true
   ·
    rw [if_pos c15] at H
    have c15b0 : (t565 != t558) = true := c15
    (try (have c15b1 : decide (t565 = t558) = false := by simpa using c15))
    (try (have c15b2 : (t565 == t558) = false := by simpa using c15))
    (try (have c15b3 : ¬ (t565 = t558) := by simpa using c15))
    clear c15
    obtain rfl := Option.some.inj H
    go_enter Try.func12, Try.ntmps12
    go_wp2_with (first | ((with_reducible refine gate_callee (f := 15) rfl ?_); refine goesL_ (some 12) rfl rfl Try.func15 (by kernel_rfl) rfl #[.slice A0 l0.length c0, .int .i64 1048576] rfl (by (try simp only [List.map_toArray, List.map_cons, List.map_nil]); first | done | rfl | (simp only [List.length_drop, List.length_take]; rfl)) ?_; (with_reducible refine (laws_szTeamS.calls k _ _ l0 1048576 t550 _ ?side1 ?side2 A3.out).mono ?_); (case side1 => repeat (first | exact HR0.out | (with_reducible refine Kd.C_alloc ?_ _) | (with_reducible refine Kd.C_drewN ?_ _) | (with_reducible refine Kd.C_drew ?_))); (case side2 => exact HC0.out); rintro e w16 ⟨rfl, hb⟩; refine ⟨_, rfl, ?_⟩; have n0_ := Aside0.mk (below_step (by repeat (first | (with_reducible first | exact HB.out | apply below_alloc | apply pw_below_drewN | apply below_drew1) | exact HB.out)) hb); clear HB; have HB := n0_; clear n0_; (try clear hb); (try clear hb2); (try clear hk); (try clear hi)) | ((with_reducible refine gate_callee (f := 28) rfl ?_); refine goesL_ (some 17) rfl rfl Try.func28 (by kernel_rfl) rfl #[.slice A1 l1.length c1, .int .i64 t550] rfl (by (try simp only [List.map_toArray, List.map_cons, List.map_nil]); first | done | rfl | (simp only [List.length_drop, List.length_take]; rfl)) ?_; (with_reducible refine (laws_szPairS.calls _ _ l1 t550 t551 _ ?side1 ?side2 A6.out).mono ?_); (case side1 => repeat (first | exact (Kd.C_below HR1.out HB.out) | (with_reducible refine Kd.C_alloc ?_ _) | (with_reducible refine Kd.C_drewN ?_ _) | (with_reducible refine Kd.C_drew ?_))); (case side2 => exact HC1.out); rintro e w' ⟨rfl, ⟨nd, rfl⟩⟩; refine ⟨_, rfl, ?_⟩) | ((with_reducible refine gate_callee (f := 17) rfl ?_); refine goesL_ (some 21) rfl rfl Try.func17 (by kernel_rfl) rfl #[.slice A0 l0.length c0] rfl (by (try simp only [List.map_toArray, List.map_cons, List.map_nil]); first | done | rfl | (simp only [List.length_drop, List.length_take]; rfl)) ?_; (with_reducible refine (laws_toTeamS.calls k _ _ l0 t552 _ ?side1 ?side2 A9.out).mono ?_); (case side1 => repeat (first | exact (Kd.C_below HR0.out (by repeat (first | (with_reducible first | exact HB.out | apply below_alloc | apply pw_below_drewN | apply below_drew1) | exact HB.out))) | (with_reducible refine Kd.C_alloc ?_ _) | (with_reducible refine Kd.C_drewN ?_ _) | (with_reducible refine Kd.C_drew ?_))); (case side2 => exact HC0.out); rintro e w17 ⟨v553, rfl, ho0, hb⟩; refine ⟨_, rfl, ?_⟩; have n0_ := Aside0.mk (Kd.S_lower ho0 (below_size (by repeat (first | (with_reducible first | exact HB.out | apply below_alloc | apply pw_below_drewN | apply below_drew1) | exact HB.out)))); have n1_ := Aside0.mk (below_step (by repeat (first | (with_reducible first | exact HB.out | apply below_alloc | apply pw_below_drewN | apply below_drew1) | exact HB.out)) hb); clear HB; have HO554 := n0_; have HB := n1_; clear n0_ n1_; (try clear hb); (try clear hb2); (try clear hk); (try clear hi); (try clear ho0)) | ((with_reducible refine gate_callee (f := 30) rfl ?_); refine goesL_ (some 23) rfl rfl Try.func30 (by kernel_rfl) rfl #[.slice A1 l1.length c1] rfl (by (try simp only [List.map_toArray, List.map_cons, List.map_nil]); first | done | rfl | (simp only [List.length_drop, List.length_take]; rfl)) ?_; (with_reducible refine (laws_toPairS.calls k _ _ l1 t555 _ ?side1 ?side2 A10.out).mono ?_); (case side1 => repeat (first | exact (Kd.C_below HR1.out HB.out) | (with_reducible refine Kd.C_alloc ?_ _) | (with_reducible refine Kd.C_drewN ?_ _) | (with_reducible refine Kd.C_drew ?_))); (case side2 => exact HC1.out); rintro e w18 ⟨v556, rfl, ho0, hb⟩; refine ⟨_, rfl, ?_⟩; have n0_ := Aside0.mk (Kd.S_below (by (with_reducible repeat (first | apply Kd.S_alloc | apply Kd.S_drewN | apply Kd.S_drew)); exact HO554.out) hb); have n1_ := Aside0.mk (Kd.R_lower ho0 (below_size (by repeat (first | (with_reducible first | exact HB.out | apply below_alloc | apply pw_below_drewN | apply below_drew1) | exact HB.out)))); have n2_ := Aside0.mk (below_step (by repeat (first | (with_reducible first | exact HB.out | apply below_alloc | apply pw_below_drewN | apply below_drew1) | exact HB.out)) hb); clear HO554; clear HB; have HO554 := n0_; have HO557 := n1_; have HB := n2_; clear n0_ n1_ n2_; (try clear hb); (try clear hb2); (try clear hk); (try clear hi); (try clear ho0); obtain ⟨Ao19, co19, eo19⟩ := Kd.S_slice HO554.out; subst eo19; obtain ⟨Ao20, co20, eo20⟩ := Kd.R_slice HO557.out; subst eo20) | ((with_reducible refine gate_callee (f := 45) rfl ?_); refine goesL_ (some 24) rfl rfl Try.func45 (by kernel_rfl) rfl #[.slice Ao19 t552.length co19, .slice Ao20 t555.length co20] rfl (by (try simp only [List.map_toArray, List.map_cons, List.map_nil]); first | done | rfl | (simp only [List.length_drop, List.length_take]; rfl)) ?_; (with_reducible refine (spec_IsRound.calls k _ _ t552 _ _ t555 t558 _ ?side1 ?side2 ?side3 ?side4 A11.out).mono ?_); (case side1 => repeat (first | exact (Kd.S_reads' HO554.out).2.2 | (with_reducible refine Kd.C_alloc ?_ _) | (with_reducible refine Kd.C_drewN ?_ _) | (with_reducible refine Kd.C_drew ?_))); (case side2 => exact (Kd.S_reads' HO554.out).2.1); (case side3 => repeat (first | exact (Kd.R_reads' HO557.out).2.2 | (with_reducible refine Kd.C_alloc ?_ _) | (with_reducible refine Kd.C_drewN ?_ _) | (with_reducible refine Kd.C_drew ?_))); (case side4 => exact (Kd.R_reads' HO557.out).2.1); rintro e w21 ⟨rfl, hb⟩; refine ⟨_, rfl, ?_⟩; have n0_ := Aside0.mk (Kd.S_below (by (with_reducible repeat (first | apply Kd.S_alloc | apply Kd.S_drewN | apply Kd.S_drew)); exact HO554.out) hb); have n1_ := Aside0.mk (Kd.R_below (by (with_reducible repeat (first | apply Kd.R_alloc | apply Kd.R_drewN | apply Kd.R_drew)); exact HO557.out) hb); have n2_ := Aside0.mk (below_step (by repeat (first | (with_reducible first | exact HB.out | apply below_alloc | apply pw_below_drewN | apply below_drew1) | exact HB.out)) hb); clear HO554; clear HO557; clear HB; have HO554 := n0_; have HO557 := n1_; have HB := n2_; clear n0_ n1_ n2_; (try clear hb); (try clear hb2); (try clear hk); (try clear hi)) | ((with_reducible refine gate_callee (f := 17) rfl ?_); refine goesL_ (some 26) rfl rfl Try.func17 (by kernel_rfl) rfl #[.slice A0 l0.length c0] rfl (by (try simp only [List.map_toArray, List.map_cons, List.map_nil]); first | done | rfl | (simp only [List.length_drop, List.length_take]; rfl)) ?_; (with_reducible refine (laws_toTeamS.calls k _ _ l0 t559 _ ?side1 ?side2 A12.out).mono ?_); (case side1 => repeat (first | exact (Kd.C_below HR0.out HB.out) | (with_reducible refine Kd.C_alloc ?_ _) | (with_reducible refine Kd.C_drewN ?_ _) | (with_reducible refine Kd.C_drew ?_))); (case side2 => exact HC0.out); rintro e w22 ⟨v560, rfl, ho0, hb⟩; refine ⟨_, rfl, ?_⟩; have n0_ := Aside0.mk (Kd.S_elder' (by (with_reducible repeat (first | apply Kd.S_alloc | apply Kd.S_drewN | apply Kd.S_drew)); exact HO554.out) (Kd.S_base ho0) hb); have n1_ := Aside0.mk (Kd.R_below (by (with_reducible repeat (first | apply Kd.R_alloc | apply Kd.R_drewN | apply Kd.R_drew)); exact HO557.out) hb); have n2_ := Aside0.mk (Kd.S_lower (Kd.S_new' ho0 (Kd.S_lt (by (with_reducible repeat (first | apply Kd.S_alloc | apply Kd.S_drewN | apply Kd.S_drew)); exact HO554.out))) (below_size (by repeat (first | (with_reducible first | exact HB.out | apply below_alloc | apply pw_below_drewN | apply below_drew1) | exact HB.out)))); have n3_ := Aside0.mk (below_step (by repeat (first | (with_reducible first | exact HB.out | apply below_alloc | apply pw_below_drewN | apply below_drew1) | exact HB.out)) hb); clear HO554; clear HO557; clear HB; have HO554 := n0_; have HO557 := n1_; have HO561 := n2_; have HB := n3_; clear n0_ n1_ n2_ n3_; (try clear hb); (try clear hb2); (try clear hk); (try clear hi); (try clear ho0)) | ((with_reducible refine gate_callee (f := 30) rfl ?_); refine goesL_ (some 28) rfl rfl Try.func30 (by kernel_rfl) rfl #[.slice A1 l1.length c1] rfl (by (try simp only [List.map_toArray, List.map_cons, List.map_nil]); first | done | rfl | (simp only [List.length_drop, List.length_take]; rfl)) ?_; (with_reducible refine (laws_toPairS.calls k _ _ l1 t562 _ ?side1 ?side2 A13.out).mono ?_); (case side1 => repeat (first | exact (Kd.C_below HR1.out HB.out) | (with_reducible refine Kd.C_alloc ?_ _) | (with_reducible refine Kd.C_drewN ?_ _) | (with_reducible refine Kd.C_drew ?_))); (case side2 => exact HC1.out); rintro e w23 ⟨v563, rfl, ho0, hb⟩; refine ⟨_, rfl, ?_⟩; have n0_ := Aside0.mk (Kd.S_below (by (with_reducible repeat (first | apply Kd.S_alloc | apply Kd.S_drewN | apply Kd.S_drew)); exact HO554.out) hb); have n1_ := Aside0.mk (Kd.R_elder' (by (with_reducible repeat (first | apply Kd.R_alloc | apply Kd.R_drewN | apply Kd.R_drew)); exact HO557.out) (Kd.R_base ho0) hb); have n2_ := Aside0.mk (Kd.S_below (by (with_reducible repeat (first | apply Kd.S_alloc | apply Kd.S_drewN | apply Kd.S_drew)); exact HO561.out) hb); have n3_ := Aside0.mk (Kd.R_lower (Kd.R_new' ho0 (Kd.R_lt (by (with_reducible repeat (first | apply Kd.R_alloc | apply Kd.R_drewN | apply Kd.R_drew)); exact HO557.out))) (below_size (by repeat (first | (with_reducible first | exact HB.out | apply below_alloc | apply pw_below_drewN | apply below_drew1) | exact HB.out)))); have n4_ := Aside0.mk (below_step (by repeat (first | (with_reducible first | exact HB.out | apply below_alloc | apply pw_below_drewN | apply below_drew1) | exact HB.out)) hb); clear HO554; clear HO557; clear HO561; clear HB; have HO554 := n0_; have HO557 := n1_; have HO561 := n2_; have HO564 := n3_; have HB := n4_; clear n0_ n1_ n2_ n3_ n4_; (try clear hb); (try clear hb2); (try clear hk); (try clear hi); (try clear ho0); obtain ⟨Ao24, co24, eo24⟩ := Kd.S_slice HO561.out; subst eo24; obtain ⟨Ao25, co25, eo25⟩ := Kd.R_slice HO564.out; subst eo25) | ((with_reducible refine gate_callee (f := 46) rfl ?_); refine goesL_ (some 31) rfl rfl Try.func46 (by kernel_rfl) rfl #[.slice Ao24 t559.length co24, .slice Ao25 t562.length co25] rfl (by (try simp only [List.map_toArray, List.map_cons, List.map_nil]); first | done | rfl | (simp only [List.length_drop, List.length_take]; rfl)) ?_; (with_reducible refine (impl_IsRound.calls k _ _ t559 _ _ t562 t565 _ ?side1 ?side2 ?side3 ?side4 A14.out).mono ?_); (case side1 => repeat (first | exact (Kd.S_reads' HO561.out).2.2 | (with_reducible refine Kd.C_alloc ?_ _) | (with_reducible refine Kd.C_drewN ?_ _) | (with_reducible refine Kd.C_drew ?_))); (case side2 => exact (Kd.S_reads' HO561.out).2.1); (case side3 => repeat (first | exact (Kd.R_reads' HO564.out).2.2 | (with_reducible refine Kd.C_alloc ?_ _) | (with_reducible refine Kd.C_drewN ?_ _) | (with_reducible refine Kd.C_drew ?_))); (case side4 => exact (Kd.R_reads' HO564.out).2.1); rintro e w26 ⟨rfl, hb⟩; refine ⟨_, rfl, ?_⟩; have n0_ := Aside0.mk (Kd.S_below (by (with_reducible repeat (first | apply Kd.S_alloc | apply Kd.S_drewN | apply Kd.S_drew)); exact HO554.out) hb); have n1_ := Aside0.mk (Kd.R_below (by (with_reducible repeat (first | apply Kd.R_alloc | apply Kd.R_drewN | apply Kd.R_drew)); exact HO557.out) hb); have n2_ := Aside0.mk (Kd.S_below (by (with_reducible repeat (first | apply Kd.S_alloc | apply Kd.S_drewN | apply Kd.S_drew)); exact HO561.out) hb); have n3_ := Aside0.mk (Kd.R_below (by (with_reducible repeat (first | apply Kd.R_alloc | apply Kd.R_drewN | apply Kd.R_drew)); exact HO564.out) hb); have n4_ := Aside0.mk (below_step (by repeat (first | (with_reducible first | exact HB.out | apply below_alloc | apply pw_below_drewN | apply below_drew1) | exact HB.out)) hb); clear HO554; clear HO557; clear HO561; clear HO564; clear HB; have HO554 := n0_; have HO557 := n1_; have HO561 := n2_; have HO564 := n3_; have HB := n4_; clear n0_ n1_ n2_ n3_ n4_; (try clear hb); (try clear hb2); (try clear hk); (try clear hi)))
    go_ret
    exact ⟨by first | rfl | (simp [errW_none, errW_some] <;> rfl) | (simp [*, errW_none, errW_some] <;> rfl), by repeat (first | (with_reducible first | exact HB.out | apply below_alloc | apply pw_below_drewN | apply below_drew1) | exact HB.out)⟩
   ·
    rw [if_neg c15] at H
    have c15b0 : (t565 != t558) = false := by simpa using c15
    (try (have c15b1 : decide (t565 = t558) = true := by simpa using c15))
    (try (have c15b2 : (t565 == t558) = true := by simpa using c15))
    clear c15
    replace H := Option.bind_eq_some_iff.mp H
    obtain ⟨t566, A270, H⟩ := H
    replace H : ((laws_eqTeamS.f k t559 t566).bind fun t569 => (if t569 = true then ((laws_toPairS.f k l1).bind fun t570 => ((laws_eqPairS.f k t562 t570).bind fun t573 => (if t573 = true then (some true) else (some false)))) else (some false))) = some r := H
    have A27 := Aside0.mk A270
    clear A270
    replace H := Option.bind_eq_some_iff.mp H
    obtain ⟨t569, A280, H⟩ := H
    replace H : (if t569 = true then ((laws_toPairS.f k l1).bind fun t570 => ((laws_eqPairS.f k t562 t570).bind fun t573 => (if t573 = true then (some true) else (some false)))) else (some false)) = some r := H
    have A28 := Aside0.mk A280
    clear A280
    by_cases c29 : t569 = true
    ·
     subst c29
     have H1 : ((laws_toPairS.f k l1).bind fun t570 => ((laws_eqPairS.f k t562 t570).bind fun t573 => (if t573 = true then (some true) else (some false)))) = some r := by rw [if_pos rfl] at H; exact H
     clear H
     have H := H1
     clear H1
     replace H := Option.bind_eq_some_iff.mp H
     obtain ⟨t570, A300, H⟩ := H
     replace H : ((laws_eqPairS.f k t562 t570).bind fun t573 => (if t573 = true then (some true) else (some false))) = some r := H
     have A30 := Aside0.mk A300
     clear A300
     replace H := Option.bind_eq_some_iff.mp H
     obtain ⟨t573, A310, H⟩ := H
     replace H : (if t573 = true then (some true) else (some false)) = some r := H
     have A31 := Aside0.mk A310
     clear A310
     by_cases c32 : t573 = true
     ·
      subst c32
      have H1 : (some true) = some r := by rw [if_pos rfl] at H; exact H
      clear H
      have H := H1
      clear H1
      obtain rfl := Option.some.inj H
      go_enter Try.func12, Try.ntmps12
      go_wp2_with (first | ((with_reducible refine gate_callee (f := 15) rfl ?_); refine goesL_ (some 12) rfl rfl Try.func15 (by kernel_rfl) rfl #[.slice A0 l0.length c0, .int .i64 1048576] rfl (by (try simp only [List.map_toArray, List.map_cons, List.map_nil]); first | done | rfl | (simp only [List.length_drop, List.length_take]; rfl)) ?_; (with_reducible refine (laws_szTeamS.calls k _ _ l0 1048576 t550 _ ?side1 ?side2 A3.out).mono ?_); (case side1 => repeat (first | exact HR0.out | (with_reducible refine Kd.C_alloc ?_ _) | (with_reducible refine Kd.C_drewN ?_ _) | (with_reducible refine Kd.C_drew ?_))); (case side2 => exact HC0.out); rintro e w33 ⟨rfl, hb⟩; refine ⟨_, rfl, ?_⟩; have n0_ := Aside0.mk (below_step (by repeat (first | (with_reducible first | exact HB.out | apply below_alloc | apply pw_below_drewN | apply below_drew1) | exact HB.out)) hb); clear HB; have HB := n0_; clear n0_; (try clear hb); (try clear hb2); (try clear hk); (try clear hi)) | ((with_reducible refine gate_callee (f := 28) rfl ?_); refine goesL_ (some 17) rfl rfl Try.func28 (by kernel_rfl) rfl #[.slice A1 l1.length c1, .int .i64 t550] rfl (by (try simp only [List.map_toArray, List.map_cons, List.map_nil]); first | done | rfl | (simp only [List.length_drop, List.length_take]; rfl)) ?_; (with_reducible refine (laws_szPairS.calls _ _ l1 t550 t551 _ ?side1 ?side2 A6.out).mono ?_); (case side1 => repeat (first | exact (Kd.C_below HR1.out HB.out) | (with_reducible refine Kd.C_alloc ?_ _) | (with_reducible refine Kd.C_drewN ?_ _) | (with_reducible refine Kd.C_drew ?_))); (case side2 => exact HC1.out); rintro e w' ⟨rfl, ⟨nd, rfl⟩⟩; refine ⟨_, rfl, ?_⟩) | ((with_reducible refine gate_callee (f := 17) rfl ?_); refine goesL_ (some 21) rfl rfl Try.func17 (by kernel_rfl) rfl #[.slice A0 l0.length c0] rfl (by (try simp only [List.map_toArray, List.map_cons, List.map_nil]); first | done | rfl | (simp only [List.length_drop, List.length_take]; rfl)) ?_; (with_reducible refine (laws_toTeamS.calls k _ _ l0 t552 _ ?side1 ?side2 A9.out).mono ?_); (case side1 => repeat (first | exact (Kd.C_below HR0.out (by repeat (first | (with_reducible first | exact HB.out | apply below_alloc | apply pw_below_drewN | apply below_drew1) | exact HB.out))) | (with_reducible refine Kd.C_alloc ?_ _) | (with_reducible refine Kd.C_drewN ?_ _) | (with_reducible refine Kd.C_drew ?_))); (case side2 => exact HC0.out); rintro e w34 ⟨v553, rfl, ho0, hb⟩; refine ⟨_, rfl, ?_⟩; have n0_ := Aside0.mk (Kd.S_lower ho0 (below_size (by repeat (first | (with_reducible first | exact HB.out | apply below_alloc | apply pw_below_drewN | apply below_drew1) | exact HB.out)))); have n1_ := Aside0.mk (below_step (by repeat (first | (with_reducible first | exact HB.out | apply below_alloc | apply pw_below_drewN | apply below_drew1) | exact HB.out)) hb); clear HB; have HO554 := n0_; have HB := n1_; clear n0_ n1_; (try clear hb); (try clear hb2); (try clear hk); (try clear hi); (try clear ho0)) | ((with_reducible refine gate_callee (f := 30) rfl ?_); refine goesL_ (some 23) rfl rfl Try.func30 (by kernel_rfl) rfl #[.slice A1 l1.length c1] rfl (by (try simp only [List.map_toArray, List.map_cons, List.map_nil]); first | done | rfl | (simp only [List.length_drop, List.length_take]; rfl)) ?_; (with_reducible refine (laws_toPairS.calls k _ _ l1 t555 _ ?side1 ?side2 A10.out).mono ?_); (case side1 => repeat (first | exact (Kd.C_below HR1.out HB.out) | (with_reducible refine Kd.C_alloc ?_ _) | (with_reducible refine Kd.C_drewN ?_ _) | (with_reducible refine Kd.C_drew ?_))); (case side2 => exact HC1.out); rintro e w35 ⟨v556, rfl, ho0, hb⟩; refine ⟨_, rfl, ?_⟩; have n0_ := Aside0.mk (Kd.S_below (by (with_reducible repeat (first | apply Kd.S_alloc | apply Kd.S_drewN | apply Kd.S_drew)); exact HO554.out) hb); have n1_ := Aside0.mk (Kd.R_lower ho0 (below_size (by repeat (first | (with_reducible first | exact HB.out | apply below_alloc | apply pw_below_drewN | apply below_drew1) | exact HB.out)))); have n2_ := Aside0.mk (below_step (by repeat (first | (with_reducible first | exact HB.out | apply below_alloc | apply pw_below_drewN | apply below_drew1) | exact HB.out)) hb); clear HO554; clear HB; have HO554 := n0_; have HO557 := n1_; have HB := n2_; clear n0_ n1_ n2_; (try clear hb); (try clear hb2); (try clear hk); (try clear hi); (try clear ho0); obtain ⟨Ao36, co36, eo36⟩ := Kd.S_slice HO554.out; subst eo36; obtain ⟨Ao37, co37, eo37⟩ := Kd.R_slice HO557.out; subst eo37) | ((with_reducible refine gate_callee (f := 45) rfl ?_); refine goesL_ (some 24) rfl rfl Try.func45 (by kernel_rfl) rfl #[.slice Ao36 t552.length co36, .slice Ao37 t555.length co37] rfl (by (try simp only [List.map_toArray, List.map_cons, List.map_nil]); first | done | rfl | (simp only [List.length_drop, List.length_take]; rfl)) ?_; (with_reducible refine (spec_IsRound.calls k _ _ t552 _ _ t555 t558 _ ?side1 ?side2 ?side3 ?side4 A11.out).mono ?_); (case side1 => repeat (first | exact (Kd.S_reads' HO554.out).2.2 | (with_reducible refine Kd.C_alloc ?_ _) | (with_reducible refine Kd.C_drewN ?_ _) | (with_reducible refine Kd.C_drew ?_))); (case side2 => exact (Kd.S_reads' HO554.out).2.1); (case side3 => repeat (first | exact (Kd.R_reads' HO557.out).2.2 | (with_reducible refine Kd.C_alloc ?_ _) | (with_reducible refine Kd.C_drewN ?_ _) | (with_reducible refine Kd.C_drew ?_))); (case side4 => exact (Kd.R_reads' HO557.out).2.1); rintro e w38 ⟨rfl, hb⟩; refine ⟨_, rfl, ?_⟩; have n0_ := Aside0.mk (Kd.S_below (by (with_reducible repeat (first | apply Kd.S_alloc | apply Kd.S_drewN | apply Kd.S_drew)); exact HO554.out) hb); have n1_ := Aside0.mk (Kd.R_below (by (with_reducible repeat (first | apply Kd.R_alloc | apply Kd.R_drewN | apply Kd.R_drew)); exact HO557.out) hb); have n2_ := Aside0.mk (below_step (by repeat (first | (with_reducible first | exact HB.out | apply below_alloc | apply pw_below_drewN | apply below_drew1) | exact HB.out)) hb); clear HO554; clear HO557; clear HB; have HO554 := n0_; have HO557 := n1_; have HB := n2_; clear n0_ n1_ n2_; (try clear hb); (try clear hb2); (try clear hk); (try clear hi)) | ((with_reducible refine gate_callee (f := 17) rfl ?_); refine goesL_ (some 26) rfl rfl Try.func17 (by kernel_rfl) rfl #[.slice A0 l0.length c0] rfl (by (try simp only [List.map_toArray, List.map_cons, List.map_nil]); first | done | rfl | (simp only [List.length_drop, List.length_take]; rfl)) ?_; (with_reducible refine (laws_toTeamS.calls k _ _ l0 t559 _ ?side1 ?side2 A12.out).mono ?_); (case side1 => repeat (first | exact (Kd.C_below HR0.out HB.out) | (with_reducible refine Kd.C_alloc ?_ _) | (with_reducible refine Kd.C_drewN ?_ _) | (with_reducible refine Kd.C_drew ?_))); (case side2 => exact HC0.out); rintro e w39 ⟨v560, rfl, ho0, hb⟩; refine ⟨_, rfl, ?_⟩; have n0_ := Aside0.mk (Kd.S_elder' (by (with_reducible repeat (first | apply Kd.S_alloc | apply Kd.S_drewN | apply Kd.S_drew)); exact HO554.out) (Kd.S_base ho0) hb); have n1_ := Aside0.mk (Kd.R_below (by (with_reducible repeat (first | apply Kd.R_alloc | apply Kd.R_drewN | apply Kd.R_drew)); exact HO557.out) hb); have n2_ := Aside0.mk (Kd.S_lower (Kd.S_new' ho0 (Kd.S_lt (by (with_reducible repeat (first | apply Kd.S_alloc | apply Kd.S_drewN | apply Kd.S_drew)); exact HO554.out))) (below_size (by repeat (first | (with_reducible first | exact HB.out | apply below_alloc | apply pw_below_drewN | apply below_drew1) | exact HB.out)))); have n3_ := Aside0.mk (below_step (by repeat (first | (with_reducible first | exact HB.out | apply below_alloc | apply pw_below_drewN | apply below_drew1) | exact HB.out)) hb); clear HO554; clear HO557; clear HB; have HO554 := n0_; have HO557 := n1_; have HO561 := n2_; have HB := n3_; clear n0_ n1_ n2_ n3_; (try clear hb); (try clear hb2); (try clear hk); (try clear hi); (try clear ho0)) | ((with_reducible refine gate_callee (f := 30) rfl ?_); refine goesL_ (some 28) rfl rfl Try.func30 (by kernel_rfl) rfl #[.slice A1 l1.length c1] rfl (by (try simp only [List.map_toArray, List.map_cons, List.map_nil]); first | done | rfl | (simp only [List.length_drop, List.length_take]; rfl)) ?_; (with_reducible refine (laws_toPairS.calls k _ _ l1 t562 _ ?side1 ?side2 A13.out).mono ?_); (case side1 => repeat (first | exact (Kd.C_below HR1.out HB.out) | (with_reducible refine Kd.C_alloc ?_ _) | (with_reducible refine Kd.C_drewN ?_ _) | (with_reducible refine Kd.C_drew ?_))); (case side2 => exact HC1.out); rintro e w40 ⟨v563, rfl, ho0, hb⟩; refine ⟨_, rfl, ?_⟩; have n0_ := Aside0.mk (Kd.S_below (by (with_reducible repeat (first | apply Kd.S_alloc | apply Kd.S_drewN | apply Kd.S_drew)); exact HO554.out) hb); have n1_ := Aside0.mk (Kd.R_elder' (by (with_reducible repeat (first | apply Kd.R_alloc | apply Kd.R_drewN | apply Kd.R_drew)); exact HO557.out) (Kd.R_base ho0) hb); have n2_ := Aside0.mk (Kd.S_below (by (with_reducible repeat (first | apply Kd.S_alloc | apply Kd.S_drewN | apply Kd.S_drew)); exact HO561.out) hb); have n3_ := Aside0.mk (Kd.R_lower (Kd.R_new' ho0 (Kd.R_lt (by (with_reducible repeat (first | apply Kd.R_alloc | apply Kd.R_drewN | apply Kd.R_drew)); exact HO557.out))) (below_size (by repeat (first | (with_reducible first | exact HB.out | apply below_alloc | apply pw_below_drewN | apply below_drew1) | exact HB.out)))); have n4_ := Aside0.mk (below_step (by repeat (first | (with_reducible first | exact HB.out | apply below_alloc | apply pw_below_drewN | apply below_drew1) | exact HB.out)) hb); clear HO554; clear HO557; clear HO561; clear HB; have HO554 := n0_; have HO557 := n1_; have HO561 := n2_; have HO564 := n3_; have HB := n4_; clear n0_ n1_ n2_ n3_ n4_; (try clear hb); (try clear hb2); (try clear hk); (try clear hi); (try clear ho0); obtain ⟨Ao41, co41, eo41⟩ := Kd.S_slice HO561.out; subst eo41; obtain ⟨Ao42, co42, eo42⟩ := Kd.R_slice HO564.out; subst eo42) | ((with_reducible refine gate_callee (f := 46) rfl ?_); refine goesL_ (some 31) rfl rfl Try.func46 (by kernel_rfl) rfl #[.slice Ao41 t559.length co41, .slice Ao42 t562.length co42] rfl (by (try simp only [List.map_toArray, List.map_cons, List.map_nil]); first | done | rfl | (simp only [List.length_drop, List.length_take]; rfl)) ?_; (with_reducible refine (impl_IsRound.calls k _ _ t559 _ _ t562 t565 _ ?side1 ?side2 ?side3 ?side4 A14.out).mono ?_); (case side1 => repeat (first | exact (Kd.S_reads' HO561.out).2.2 | (with_reducible refine Kd.C_alloc ?_ _) | (with_reducible refine Kd.C_drewN ?_ _) | (with_reducible refine Kd.C_drew ?_))); (case side2 => exact (Kd.S_reads' HO561.out).2.1); (case side3 => repeat (first | exact (Kd.R_reads' HO564.out).2.2 | (with_reducible refine Kd.C_alloc ?_ _) | (with_reducible refine Kd.C_drewN ?_ _) | (with_reducible refine Kd.C_drew ?_))); (case side4 => exact (Kd.R_reads' HO564.out).2.1); rintro e w43 ⟨rfl, hb⟩; refine ⟨_, rfl, ?_⟩; have n0_ := Aside0.mk (Kd.S_below (by (with_reducible repeat (first | apply Kd.S_alloc | apply Kd.S_drewN | apply Kd.S_drew)); exact HO554.out) hb); have n1_ := Aside0.mk (Kd.R_below (by (with_reducible repeat (first | apply Kd.R_alloc | apply Kd.R_drewN | apply Kd.R_drew)); exact HO557.out) hb); have n2_ := Aside0.mk (Kd.S_below (by (with_reducible repeat (first | apply Kd.S_alloc | apply Kd.S_drewN | apply Kd.S_drew)); exact HO561.out) hb); have n3_ := Aside0.mk (Kd.R_below (by (with_reducible repeat (first | apply Kd.R_alloc | apply Kd.R_drewN | apply Kd.R_drew)); exact HO564.out) hb); have n4_ := Aside0.mk (below_step (by repeat (first | (with_reducible first | exact HB.out | apply below_alloc | apply pw_below_drewN | apply below_drew1) | exact HB.out)) hb); clear HO554; clear HO557; clear HO561; clear HO564; clear HB; have HO554 := n0_; have HO557 := n1_; have HO561 := n2_; have HO564 := n3_; have HB := n4_; clear n0_ n1_ n2_ n3_ n4_; (try clear hb); (try clear hb2); (try clear hk); (try clear hi)) | ((with_reducible refine gate_callee (f := 17) rfl ?_); refine goesL_ (some 37) rfl rfl Try.func17 (by kernel_rfl) rfl #[.slice A0 l0.length c0] rfl (by (try simp only [List.map_toArray, List.map_cons, List.map_nil]); first | done | rfl | (simp only [List.length_drop, List.length_take]; rfl)) ?_; (with_reducible refine (laws_toTeamS.calls k _ _ l0 t566 _ ?side1 ?side2 A27.out).mono ?_); (case side1 => repeat (first | exact (Kd.C_below HR0.out HB.out) | (with_reducible refine Kd.C_alloc ?_ _) | (with_reducible refine Kd.C_drewN ?_ _) | (with_reducible refine Kd.C_drew ?_))); (case side2 => exact HC0.out); rintro e w44 ⟨v567, rfl, ho0, hb⟩; refine ⟨_, rfl, ?_⟩; have n0_ := Aside0.mk (Kd.S_elder' (by (with_reducible repeat (first | apply Kd.S_alloc | apply Kd.S_drewN | apply Kd.S_drew)); exact HO554.out) (Kd.S_base ho0) hb); have n1_ := Aside0.mk (Kd.R_below (by (with_reducible repeat (first | apply Kd.R_alloc | apply Kd.R_drewN | apply Kd.R_drew)); exact HO557.out) hb); have n2_ := Aside0.mk (Kd.S_elder' (by (with_reducible repeat (first | apply Kd.S_alloc | apply Kd.S_drewN | apply Kd.S_drew)); exact HO561.out) (Kd.S_base ho0) hb); have n3_ := Aside0.mk (Kd.R_below (by (with_reducible repeat (first | apply Kd.R_alloc | apply Kd.R_drewN | apply Kd.R_drew)); exact HO564.out) hb); have n4_ := Aside0.mk (Kd.S_lower (Kd.S_new' (Kd.S_new' ho0 (Kd.S_lt (by (with_reducible repeat (first | apply Kd.S_alloc | apply Kd.S_drewN | apply Kd.S_drew)); exact HO554.out))) (Kd.S_lt (by (with_reducible repeat (first | apply Kd.S_alloc | apply Kd.S_drewN | apply Kd.S_drew)); exact HO561.out))) (below_size (by repeat (first | (with_reducible first | exact HB.out | apply below_alloc | apply pw_below_drewN | apply below_drew1) | exact HB.out)))); have n5_ := Aside0.mk (below_step (by repeat (first | (with_reducible first | exact HB.out | apply below_alloc | apply pw_below_drewN | apply below_drew1) | exact HB.out)) hb); clear HO554; clear HO557; clear HO561; clear HO564; clear HB; have HO554 := n0_; have HO557 := n1_; have HO561 := n2_; have HO564 := n3_; have HO568 := n4_; have HB := n5_; clear n0_ n1_ n2_ n3_ n4_ n5_; (try clear hb); (try clear hb2); (try clear hk); (try clear hi); (try clear ho0); obtain ⟨Ao45, co45, eo45⟩ := Kd.S_slice HO568.out; subst eo45) | ((with_reducible refine gate_callee (f := 19) rfl ?_); refine goesL_ (some 38) rfl rfl Try.func19 (by kernel_rfl) rfl #[.slice Ao41 t559.length co41, .slice Ao45 t566.length co45] rfl (by (try simp only [List.map_toArray, List.map_cons, List.map_nil]); first | done | rfl | (simp only [List.length_drop, List.length_take]; rfl)) ?_; (with_reducible refine (laws_eqTeamS.calls k _ _ t559 _ _ t566 true _ ?side1 ?side2 ?side3 ?side4 A28.out).mono ?_); (case side1 => repeat (first | exact (Kd.S_reads' HO561.out).2.2 | (with_reducible refine Kd.C_alloc ?_ _) | (with_reducible refine Kd.C_drewN ?_ _) | (with_reducible refine Kd.C_drew ?_))); (case side2 => exact (Kd.S_reads' HO561.out).2.1); (case side3 => repeat (first | exact (Kd.S_reads' HO568.out).2.2 | (with_reducible refine Kd.C_alloc ?_ _) | (with_reducible refine Kd.C_drewN ?_ _) | (with_reducible refine Kd.C_drew ?_))); (case side4 => exact (Kd.S_reads' HO568.out).2.1); rintro e w46 ⟨rfl, hb⟩; refine ⟨_, rfl, ?_⟩; have n0_ := Aside0.mk (Kd.S_below (by (with_reducible repeat (first | apply Kd.S_alloc | apply Kd.S_drewN | apply Kd.S_drew)); exact HO554.out) hb); have n1_ := Aside0.mk (Kd.R_below (by (with_reducible repeat (first | apply Kd.R_alloc | apply Kd.R_drewN | apply Kd.R_drew)); exact HO557.out) hb); have n2_ := Aside0.mk (Kd.S_below (by (with_reducible repeat (first | apply Kd.S_alloc | apply Kd.S_drewN | apply Kd.S_drew)); exact HO561.out) hb); have n3_ := Aside0.mk (Kd.R_below (by (with_reducible repeat (first | apply Kd.R_alloc | apply Kd.R_drewN | apply Kd.R_drew)); exact HO564.out) hb); have n4_ := Aside0.mk (Kd.S_below (by (with_reducible repeat (first | apply Kd.S_alloc | apply Kd.S_drewN | apply Kd.S_drew)); exact HO568.out) hb); have n5_ := Aside0.mk (below_step (by repeat (first | (with_reducible first | exact HB.out | apply below_alloc | apply pw_below_drewN | apply below_drew1) | exact HB.out)) hb); clear HO554; clear HO557; clear HO561; clear HO564; clear HO568; clear HB; have HO554 := n0_; have HO557 := n1_; have HO561 := n2_; have HO564 := n3_; have HO568 := n4_; have HB := n5_; clear n0_ n1_ n2_ n3_ n4_ n5_; (try clear hb); (try clear hb2); (try clear hk); (try clear hi)) | ((with_reducible refine gate_callee (f := 30) rfl ?_); refine goesL_ (some 42) rfl rfl Try.func30 (by kernel_rfl) rfl #[.slice A1 l1.length c1] rfl (by (try simp only [List.map_toArray, List.map_cons, List.map_nil]); first | done | rfl | (simp only [List.length_drop, List.length_take]; rfl)) ?_; (with_reducible refine (laws_toPairS.calls k _ _ l1 t570 _ ?side1 ?side2 A30.out).mono ?_); (case side1 => repeat (first | exact (Kd.C_below HR1.out HB.out) | (with_reducible refine Kd.C_alloc ?_ _) | (with_reducible refine Kd.C_drewN ?_ _) | (with_reducible refine Kd.C_drew ?_))); (case side2 => exact HC1.out); rintro e w47 ⟨v571, rfl, ho0, hb⟩; refine ⟨_, rfl, ?_⟩; have n0_ := Aside0.mk (Kd.S_below (by (with_reducible repeat (first | apply Kd.S_alloc | apply Kd.S_drewN | apply Kd.S_drew)); exact HO554.out) hb); have n1_ := Aside0.mk (Kd.R_elder' (by (with_reducible repeat (first | apply Kd.R_alloc | apply Kd.R_drewN | apply Kd.R_drew)); exact HO557.out) (Kd.R_base ho0) hb); have n2_ := Aside0.mk (Kd.S_below (by (with_reducible repeat (first | apply Kd.S_alloc | apply Kd.S_drewN | apply Kd.S_drew)); exact HO561.out) hb); have n3_ := Aside0.mk (Kd.R_elder' (by (with_reducible repeat (first | apply Kd.R_alloc | apply Kd.R_drewN | apply Kd.R_drew)); exact HO564.out) (Kd.R_base ho0) hb); have n4_ := Aside0.mk (Kd.S_below (by (with_reducible repeat (first | apply Kd.S_alloc | apply Kd.S_drewN | apply Kd.S_drew)); exact HO568.out) hb); have n5_ := Aside0.mk (Kd.R_lower (Kd.R_new' (Kd.R_new' ho0 (Kd.R_lt (by (with_reducible repeat (first | apply Kd.R_alloc | apply Kd.R_drewN | apply Kd.R_drew)); exact HO557.out))) (Kd.R_lt (by (with_reducible repeat (first | apply Kd.R_alloc | apply Kd.R_drewN | apply Kd.R_drew)); exact HO564.out))) (below_size (by repeat (first | (with_reducible first | exact HB.out | apply below_alloc | apply pw_below_drewN | apply below_drew1) | exact HB.out)))); have n6_ := Aside0.mk (below_step (by repeat (first | (with_reducible first | exact HB.out | apply below_alloc | apply pw_below_drewN | apply below_drew1) | exact HB.out)) hb); clear HO554; clear HO557; clear HO561; clear HO564; clear HO568; clear HB; have HO554 := n0_; have HO557 := n1_; have HO561 := n2_; have HO564 := n3_; have HO568 := n4_; have HO572 := n5_; have HB := n6_; clear n0_ n1_ n2_ n3_ n4_ n5_ n6_; (try clear hb); (try clear hb2); (try clear hk); (try clear hi); (try clear ho0); obtain ⟨Ao48, co48, eo48⟩ := Kd.R_slice HO572.out; subst eo48) | ((with_reducible refine gate_callee (f := 32) rfl ?_); refine goesL_ (some 43) rfl rfl Try.func32 (by kernel_rfl) rfl #[.slice Ao42 t562.length co42, .slice Ao48 t570.length co48] rfl (by (try simp only [List.map_toArray, List.map_cons, List.map_nil]); first | done | rfl | (simp only [List.length_drop, List.length_take]; rfl)) ?_; (with_reducible refine (laws_eqPairS.calls k _ _ t562 _ _ t570 true _ ?side1 ?side2 ?side3 ?side4 A31.out).mono ?_); (case side1 => repeat (first | exact (Kd.R_reads' HO564.out).2.2 | (with_reducible refine Kd.C_alloc ?_ _) | (with_reducible refine Kd.C_drewN ?_ _) | (with_reducible refine Kd.C_drew ?_))); (case side2 => exact (Kd.R_reads' HO564.out).2.1); (case side3 => repeat (first | exact (Kd.R_reads' HO572.out).2.2 | (with_reducible refine Kd.C_alloc ?_ _) | (with_reducible refine Kd.C_drewN ?_ _) | (with_reducible refine Kd.C_drew ?_))); (case side4 => exact (Kd.R_reads' HO572.out).2.1); rintro e w49 ⟨rfl, hb⟩; refine ⟨_, rfl, ?_⟩; have n0_ := Aside0.mk (Kd.S_below (by (with_reducible repeat (first | apply Kd.S_alloc | apply Kd.S_drewN | apply Kd.S_drew)); exact HO554.out) hb); have n1_ := Aside0.mk (Kd.R_below (by (with_reducible repeat (first | apply Kd.R_alloc | apply Kd.R_drewN | apply Kd.R_drew)); exact HO557.out) hb); have n2_ := Aside0.mk (Kd.S_below (by (with_reducible repeat (first | apply Kd.S_alloc | apply Kd.S_drewN | apply Kd.S_drew)); exact HO561.out) hb); have n3_ := Aside0.mk (Kd.R_below (by (with_reducible repeat (first | apply Kd.R_alloc | apply Kd.R_drewN | apply Kd.R_drew)); exact HO564.out) hb); have n4_ := Aside0.mk (Kd.S_below (by (with_reducible repeat (first | apply Kd.S_alloc | apply Kd.S_drewN | apply Kd.S_drew)); exact HO568.out) hb); have n5_ := Aside0.mk (Kd.R_below (by (with_reducible repeat (first | apply Kd.R_alloc | apply Kd.R_drewN | apply Kd.R_drew)); exact HO572.out) hb); have n6_ := Aside0.mk (below_step (by repeat (first | (with_reducible first | exact HB.out | apply below_alloc | apply pw_below_drewN | apply below_drew1) | exact HB.out)) hb); clear HO554; clear HO557; clear HO561; clear HO564; clear HO568; clear HO572; clear HB; have HO554 := n0_; have HO557 := n1_; have HO561 := n2_; have HO564 := n3_; have HO568 := n4_; have HO572 := n5_; have HB := n6_; clear n0_ n1_ n2_ n3_ n4_ n5_ n6_; (try clear hb); (try clear hb2); (try clear hk); (try clear hi)))
      go_ret
      exact ⟨by first | rfl | (simp [errW_none, errW_some] <;> rfl) | (simp [*, errW_none, errW_some] <;> rfl), by repeat (first | (with_reducible first | exact HB.out | apply below_alloc | apply pw_below_drewN | apply below_drew1) | exact HB.out)⟩
     ·
      replace c32 := Bool.eq_false_iff.mpr c32
      subst c32
      have H1 : (some false) = some r := by rw [if_neg (show ¬ (false = true) by decide)] at H; exact H
      clear H
      have H := H1
      clear H1
      obtain rfl := Option.some.inj H
      go_enter Try.func12, Try.ntmps12
      go_wp2_with (first | ((with_reducible refine gate_callee (f := 15) rfl ?_); refine goesL_ (some 12) rfl rfl Try.func15 (by kernel_rfl) rfl #[.slice A0 l0.length c0, .int .i64 1048576] rfl (by (try simp only [List.map_toArray, List.map_cons, List.map_nil]); first | done | rfl | (simp only [List.length_drop, List.length_take]; rfl)) ?_; (with_reducible refine (laws_szTeamS.calls k _ _ l0 1048576 t550 _ ?side1 ?side2 A3.out).mono ?_); (case side1 => repeat (first | exact HR0.out | (with_reducible refine Kd.C_alloc ?_ _) | (with_reducible refine Kd.C_drewN ?_ _) | (with_reducible refine Kd.C_drew ?_))); (case side2 => exact HC0.out); rintro e w50 ⟨rfl, hb⟩; refine ⟨_, rfl, ?_⟩; have n0_ := Aside0.mk (below_step (by repeat (first | (with_reducible first | exact HB.out | apply below_alloc | apply pw_below_drewN | apply below_drew1) | exact HB.out)) hb); clear HB; have HB := n0_; clear n0_; (try clear hb); (try clear hb2); (try clear hk); (try clear hi)) | ((with_reducible refine gate_callee (f := 28) rfl ?_); refine goesL_ (some 17) rfl rfl Try.func28 (by kernel_rfl) rfl #[.slice A1 l1.length c1, .int .i64 t550] rfl (by (try simp only [List.map_toArray, List.map_cons, List.map_nil]); first | done | rfl | (simp only [List.length_drop, List.length_take]; rfl)) ?_; (with_reducible refine (laws_szPairS.calls _ _ l1 t550 t551 _ ?side1 ?side2 A6.out).mono ?_); (case side1 => repeat (first | exact (Kd.C_below HR1.out HB.out) | (with_reducible refine Kd.C_alloc ?_ _) | (with_reducible refine Kd.C_drewN ?_ _) | (with_reducible refine Kd.C_drew ?_))); (case side2 => exact HC1.out); rintro e w' ⟨rfl, ⟨nd, rfl⟩⟩; refine ⟨_, rfl, ?_⟩) | ((with_reducible refine gate_callee (f := 17) rfl ?_); refine goesL_ (some 21) rfl rfl Try.func17 (by kernel_rfl) rfl #[.slice A0 l0.length c0] rfl (by (try simp only [List.map_toArray, List.map_cons, List.map_nil]); first | done | rfl | (simp only [List.length_drop, List.length_take]; rfl)) ?_; (with_reducible refine (laws_toTeamS.calls k _ _ l0 t552 _ ?side1 ?side2 A9.out).mono ?_); (case side1 => repeat (first | exact (Kd.C_below HR0.out (by repeat (first | (with_reducible first | exact HB.out | apply below_alloc | apply pw_below_drewN | apply below_drew1) | exact HB.out))) | (with_reducible refine Kd.C_alloc ?_ _) | (with_reducible refine Kd.C_drewN ?_ _) | (with_reducible refine Kd.C_drew ?_))); (case side2 => exact HC0.out); rintro e w51 ⟨v553, rfl, ho0, hb⟩; refine ⟨_, rfl, ?_⟩; have n0_ := Aside0.mk (Kd.S_lower ho0 (below_size (by repeat (first | (with_reducible first | exact HB.out | apply below_alloc | apply pw_below_drewN | apply below_drew1) | exact HB.out)))); have n1_ := Aside0.mk (below_step (by repeat (first | (with_reducible first | exact HB.out | apply below_alloc | apply pw_below_drewN | apply below_drew1) | exact HB.out)) hb); clear HB; have HO554 := n0_; have HB := n1_; clear n0_ n1_; (try clear hb); (try clear hb2); (try clear hk); (try clear hi); (try clear ho0)) | ((with_reducible refine gate_callee (f := 30) rfl ?_); refine goesL_ (some 23) rfl rfl Try.func30 (by kernel_rfl) rfl #[.slice A1 l1.length c1] rfl (by (try simp only [List.map_toArray, List.map_cons, List.map_nil]); first | done | rfl | (simp only [List.length_drop, List.length_take]; rfl)) ?_; (with_reducible refine (laws_toPairS.calls k _ _ l1 t555 _ ?side1 ?side2 A10.out).mono ?_); (case side1 => repeat (first | exact (Kd.C_below HR1.out HB.out) | (with_reducible refine Kd.C_alloc ?_ _) | (with_reducible refine Kd.C_drewN ?_ _) | (with_reducible refine Kd.C_drew ?_))); (case side2 => exact HC1.out); rintro e w52 ⟨v556, rfl, ho0, hb⟩; refine ⟨_, rfl, ?_⟩; have n0_ := Aside0.mk (Kd.S_below (by (with_reducible repeat (first | apply Kd.S_alloc | apply Kd.S_drewN | apply Kd.S_drew)); exact HO554.out) hb); have n1_ := Aside0.mk (Kd.R_lower ho0 (below_size (by repeat (first | (with_reducible first | exact HB.out | apply below_alloc | apply pw_below_drewN | apply below_drew1) | exact HB.out)))); have n2_ := Aside0.mk (below_step (by repeat (first | (with_reducible first | exact HB.out | apply below_alloc | apply pw_below_drewN | apply below_drew1) | exact HB.out)) hb); clear HO554; clear HB; have HO554 := n0_; have HO557 := n1_; have HB := n2_; clear n0_ n1_ n2_; (try clear hb); (try clear hb2); (try clear hk); (try clear hi); (try clear ho0); obtain ⟨Ao53, co53, eo53⟩ := Kd.S_slice HO554.out; subst eo53; obtain ⟨Ao54, co54, eo54⟩ := Kd.R_slice HO557.out; subst eo54) | ((with_reducible refine gate_callee (f := 45) rfl ?_); refine goesL_ (some 24) rfl rfl Try.func45 (by kernel_rfl) rfl #[.slice Ao53 t552.length co53, .slice Ao54 t555.length co54] rfl (by (try simp only [List.map_toArray, List.map_cons, List.map_nil]); first | done | rfl | (simp only [List.length_drop, List.length_take]; rfl)) ?_; (with_reducible refine (spec_IsRound.calls k _ _ t552 _ _ t555 t558 _ ?side1 ?side2 ?side3 ?side4 A11.out).mono ?_); (case side1 => repeat (first | exact (Kd.S_reads' HO554.out).2.2 | (with_reducible refine Kd.C_alloc ?_ _) | (with_reducible refine Kd.C_drewN ?_ _) | (with_reducible refine Kd.C_drew ?_))); (case side2 => exact (Kd.S_reads' HO554.out).2.1); (case side3 => repeat (first | exact (Kd.R_reads' HO557.out).2.2 | (with_reducible refine Kd.C_alloc ?_ _) | (with_reducible refine Kd.C_drewN ?_ _) | (with_reducible refine Kd.C_drew ?_))); (case side4 => exact (Kd.R_reads' HO557.out).2.1); rintro e w55 ⟨rfl, hb⟩; refine ⟨_, rfl, ?_⟩; have n0_ := Aside0.mk (Kd.S_below (by (with_reducible repeat (first | apply Kd.S_alloc | apply Kd.S_drewN | apply Kd.S_drew)); exact HO554.out) hb); have n1_ := Aside0.mk (Kd.R_below (by (with_reducible repeat (first | apply Kd.R_alloc | apply Kd.R_drewN | apply Kd.R_drew)); exact HO557.out) hb); have n2_ := Aside0.mk (below_step (by repeat (first | (with_reducible first | exact HB.out | apply below_alloc | apply pw_below_drewN | apply below_drew1) | exact HB.out)) hb); clear HO554; clear HO557; clear HB; have HO554 := n0_; have HO557 := n1_; have HB := n2_; clear n0_ n1_ n2_; (try clear hb); (try clear hb2); (try clear hk); (try clear hi)) | ((with_reducible refine gate_callee (f := 17) rfl ?_); refine goesL_ (some 26) rfl rfl Try.func17 (by kernel_rfl) rfl #[.slice A0 l0.length c0] rfl (by (try simp only [List.map_toArray, List.map_cons, List.map_nil]); first | done | rfl | (simp only [List.length_drop, List.length_take]; rfl)) ?_; (with_reducible refine (laws_toTeamS.calls k _ _ l0 t559 _ ?side1 ?side2 A12.out).mono ?_); (case side1 => repeat (first | exact (Kd.C_below HR0.out HB.out) | (with_reducible refine Kd.C_alloc ?_ _) | (with_reducible refine Kd.C_drewN ?_ _) | (with_reducible refine Kd.C_drew ?_))); (case side2 => exact HC0.out); rintro e w56 ⟨v560, rfl, ho0, hb⟩; refine ⟨_, rfl, ?_⟩; have n0_ := Aside0.mk (Kd.S_elder' (by (with_reducible repeat (first | apply Kd.S_alloc | apply Kd.S_drewN | apply Kd.S_drew)); exact HO554.out) (Kd.S_base ho0) hb); have n1_ := Aside0.mk (Kd.R_below (by (with_reducible repeat (first | apply Kd.R_alloc | apply Kd.R_drewN | apply Kd.R_drew)); exact HO557.out) hb); have n2_ := Aside0.mk (Kd.S_lower (Kd.S_new' ho0 (Kd.S_lt (by (with_reducible repeat (first | apply Kd.S_alloc | apply Kd.S_drewN | apply Kd.S_drew)); exact HO554.out))) (below_size (by repeat (first | (with_reducible first | exact HB.out | apply below_alloc | apply pw_below_drewN | apply below_drew1) | exact HB.out)))); have n3_ := Aside0.mk (below_step (by repeat (first | (with_reducible first | exact HB.out | apply below_alloc | apply pw_below_drewN | apply below_drew1) | exact HB.out)) hb); clear HO554; clear HO557; clear HB; have HO554 := n0_; have HO557 := n1_; have HO561 := n2_; have HB := n3_; clear n0_ n1_ n2_ n3_; (try clear hb); (try clear hb2); (try clear hk); (try clear hi); (try clear ho0)) | ((with_reducible refine gate_callee (f := 30) rfl ?_); refine goesL_ (some 28) rfl rfl Try.func30 (by kernel_rfl) rfl #[.slice A1 l1.length c1] rfl (by (try simp only [List.map_toArray, List.map_cons, List.map_nil]); first | done | rfl | (simp only [List.length_drop, List.length_take]; rfl)) ?_; (with_reducible refine (laws_toPairS.calls k _ _ l1 t562 _ ?side1 ?side2 A13.out).mono ?_); (case side1 => repeat (first | exact (Kd.C_below HR1.out HB.out) | (with_reducible refine Kd.C_alloc ?_ _) | (with_reducible refine Kd.C_drewN ?_ _) | (with_reducible refine Kd.C_drew ?_))); (case side2 => exact HC1.out); rintro e w57 ⟨v563, rfl, ho0, hb⟩; refine ⟨_, rfl, ?_⟩; have n0_ := Aside0.mk (Kd.S_below (by (with_reducible repeat (first | apply Kd.S_alloc | apply Kd.S_drewN | apply Kd.S_drew)); exact HO554.out) hb); have n1_ := Aside0.mk (Kd.R_elder' (by (with_reducible repeat (first | apply Kd.R_alloc | apply Kd.R_drewN | apply Kd.R_drew)); exact HO557.out) (Kd.R_base ho0) hb); have n2_ := Aside0.mk (Kd.S_below (by (with_reducible repeat (first | apply Kd.S_alloc | apply Kd.S_drewN | apply Kd.S_drew)); exact HO561.out) hb); have n3_ := Aside0.mk (Kd.R_lower (Kd.R_new' ho0 (Kd.R_lt (by (with_reducible repeat (first | apply Kd.R_alloc | apply Kd.R_drewN | apply Kd.R_drew)); exact HO557.out))) (below_size (by repeat (first | (with_reducible first | exact HB.out | apply below_alloc | apply pw_below_drewN | apply below_drew1) | exact HB.out)))); have n4_ := Aside0.mk (below_step (by repeat (first | (with_reducible first | exact HB.out | apply below_alloc | apply pw_below_drewN | apply below_drew1) | exact HB.out)) hb); clear HO554; clear HO557; clear HO561; clear HB; have HO554 := n0_; have HO557 := n1_; have HO561 := n2_; have HO564 := n3_; have HB := n4_; clear n0_ n1_ n2_ n3_ n4_; (try clear hb); (try clear hb2); (try clear hk); (try clear hi); (try clear ho0); obtain ⟨Ao58, co58, eo58⟩ := Kd.S_slice HO561.out; subst eo58; obtain ⟨Ao59, co59, eo59⟩ := Kd.R_slice HO564.out; subst eo59) | ((with_reducible refine gate_callee (f := 46) rfl ?_); refine goesL_ (some 31) rfl rfl Try.func46 (by kernel_rfl) rfl #[.slice Ao58 t559.length co58, .slice Ao59 t562.length co59] rfl (by (try simp only [List.map_toArray, List.map_cons, List.map_nil]); first | done | rfl | (simp only [List.length_drop, List.length_take]; rfl)) ?_; (with_reducible refine (impl_IsRound.calls k _ _ t559 _ _ t562 t565 _ ?side1 ?side2 ?side3 ?side4 A14.out).mono ?_); (case side1 => repeat (first | exact (Kd.S_reads' HO561.out).2.2 | (with_reducible refine Kd.C_alloc ?_ _) | (with_reducible refine Kd.C_drewN ?_ _) | (with_reducible refine Kd.C_drew ?_))); (case side2 => exact (Kd.S_reads' HO561.out).2.1); (case side3 => repeat (first | exact (Kd.R_reads' HO564.out).2.2 | (with_reducible refine Kd.C_alloc ?_ _) | (with_reducible refine Kd.C_drewN ?_ _) | (with_reducible refine Kd.C_drew ?_))); (case side4 => exact (Kd.R_reads' HO564.out).2.1); rintro e w60 ⟨rfl, hb⟩; refine ⟨_, rfl, ?_⟩; have n0_ := Aside0.mk (Kd.S_below (by (with_reducible repeat (first | apply Kd.S_alloc | apply Kd.S_drewN | apply Kd.S_drew)); exact HO554.out) hb); have n1_ := Aside0.mk (Kd.R_below (by (with_reducible repeat (first | apply Kd.R_alloc | apply Kd.R_drewN | apply Kd.R_drew)); exact HO557.out) hb); have n2_ := Aside0.mk (Kd.S_below (by (with_reducible repeat (first | apply Kd.S_alloc | apply Kd.S_drewN | apply Kd.S_drew)); exact HO561.out) hb); have n3_ := Aside0.mk (Kd.R_below (by (with_reducible repeat (first | apply Kd.R_alloc | apply Kd.R_drewN | apply Kd.R_drew)); exact HO564.out) hb); have n4_ := Aside0.mk (below_step (by repeat (first | (with_reducible first | exact HB.out | apply below_alloc | apply pw_below_drewN | apply below_drew1) | exact HB.out)) hb); clear HO554; clear HO557; clear HO561; clear HO564; clear HB; have HO554 := n0_; have HO557 := n1_; have HO561 := n2_; have HO564 := n3_; have HB := n4_; clear n0_ n1_ n2_ n3_ n4_; (try clear hb); (try clear hb2); (try clear hk); (try clear hi)) | ((with_reducible refine gate_callee (f := 17) rfl ?_); refine goesL_ (some 37) rfl rfl Try.func17 (by kernel_rfl) rfl #[.slice A0 l0.length c0] rfl (by (try simp only [List.map_toArray, List.map_cons, List.map_nil]); first | done | rfl | (simp only [List.length_drop, List.length_take]; rfl)) ?_; (with_reducible refine (laws_toTeamS.calls k _ _ l0 t566 _ ?side1 ?side2 A27.out).mono ?_); (case side1 => repeat (first | exact (Kd.C_below HR0.out HB.out) | (with_reducible refine Kd.C_alloc ?_ _) | (with_reducible refine Kd.C_drewN ?_ _) | (with_reducible refine Kd.C_drew ?_))); (case side2 => exact HC0.out); rintro e w61 ⟨v567, rfl, ho0, hb⟩; refine ⟨_, rfl, ?_⟩; have n0_ := Aside0.mk (Kd.S_elder' (by (with_reducible repeat (first | apply Kd.S_alloc | apply Kd.S_drewN | apply Kd.S_drew)); exact HO554.out) (Kd.S_base ho0) hb); have n1_ := Aside0.mk (Kd.R_below (by (with_reducible repeat (first | apply Kd.R_alloc | apply Kd.R_drewN | apply Kd.R_drew)); exact HO557.out) hb); have n2_ := Aside0.mk (Kd.S_elder' (by (with_reducible repeat (first | apply Kd.S_alloc | apply Kd.S_drewN | apply Kd.S_drew)); exact HO561.out) (Kd.S_base ho0) hb); have n3_ := Aside0.mk (Kd.R_below (by (with_reducible repeat (first | apply Kd.R_alloc | apply Kd.R_drewN | apply Kd.R_drew)); exact HO564.out) hb); have n4_ := Aside0.mk (Kd.S_lower (Kd.S_new' (Kd.S_new' ho0 (Kd.S_lt (by (with_reducible repeat (first | apply Kd.S_alloc | apply Kd.S_drewN | apply Kd.S_drew)); exact HO554.out))) (Kd.S_lt (by (with_reducible repeat (first | apply Kd.S_alloc | apply Kd.S_drewN | apply Kd.S_drew)); exact HO561.out))) (below_size (by repeat (first | (with_reducible first | exact HB.out | apply below_alloc | apply pw_below_drewN | apply below_drew1) | exact HB.out)))); have n5_ := Aside0.mk (below_step (by repeat (first | (with_reducible first | exact HB.out | apply below_alloc | apply pw_below_drewN | apply below_drew1) | exact HB.out)) hb); clear HO554; clear HO557; clear HO561; clear HO564; clear HB; have HO554 := n0_; have HO557 := n1_; have HO561 := n2_; have HO564 := n3_; have HO568 := n4_; have HB := n5_; clear n0_ n1_ n2_ n3_ n4_ n5_; (try clear hb); (try clear hb2); (try clear hk); (try clear hi); (try clear ho0); obtain ⟨Ao62, co62, eo62⟩ := Kd.S_slice HO568.out; subst eo62) | ((with_reducible refine gate_callee (f := 19) rfl ?_); refine goesL_ (some 38) rfl rfl Try.func19 (by kernel_rfl) rfl #[.slice Ao58 t559.length co58, .slice Ao62 t566.length co62] rfl (by (try simp only [List.map_toArray, List.map_cons, List.map_nil]); first | done | rfl | (simp only [List.length_drop, List.length_take]; rfl)) ?_; (with_reducible refine (laws_eqTeamS.calls k _ _ t559 _ _ t566 true _ ?side1 ?side2 ?side3 ?side4 A28.out).mono ?_); (case side1 => repeat (first | exact (Kd.S_reads' HO561.out).2.2 | (with_reducible refine Kd.C_alloc ?_ _) | (with_reducible refine Kd.C_drewN ?_ _) | (with_reducible refine Kd.C_drew ?_))); (case side2 => exact (Kd.S_reads' HO561.out).2.1); (case side3 => repeat (first | exact (Kd.S_reads' HO568.out).2.2 | (with_reducible refine Kd.C_alloc ?_ _) | (with_reducible refine Kd.C_drewN ?_ _) | (with_reducible refine Kd.C_drew ?_))); (case side4 => exact (Kd.S_reads' HO568.out).2.1); rintro e w63 ⟨rfl, hb⟩; refine ⟨_, rfl, ?_⟩; have n0_ := Aside0.mk (Kd.S_below (by (with_reducible repeat (first | apply Kd.S_alloc | apply Kd.S_drewN | apply Kd.S_drew)); exact HO554.out) hb); have n1_ := Aside0.mk (Kd.R_below (by (with_reducible repeat (first | apply Kd.R_alloc | apply Kd.R_drewN | apply Kd.R_drew)); exact HO557.out) hb); have n2_ := Aside0.mk (Kd.S_below (by (with_reducible repeat (first | apply Kd.S_alloc | apply Kd.S_drewN | apply Kd.S_drew)); exact HO561.out) hb); have n3_ := Aside0.mk (Kd.R_below (by (with_reducible repeat (first | apply Kd.R_alloc | apply Kd.R_drewN | apply Kd.R_drew)); exact HO564.out) hb); have n4_ := Aside0.mk (Kd.S_below (by (with_reducible repeat (first | apply Kd.S_alloc | apply Kd.S_drewN | apply Kd.S_drew)); exact HO568.out) hb); have n5_ := Aside0.mk (below_step (by repeat (first | (with_reducible first | exact HB.out | apply below_alloc | apply pw_below_drewN | apply below_drew1) | exact HB.out)) hb); clear HO554; clear HO557; clear HO561; clear HO564; clear HO568; clear HB; have HO554 := n0_; have HO557 := n1_; have HO561 := n2_; have HO564 := n3_; have HO568 := n4_; have HB := n5_; clear n0_ n1_ n2_ n3_ n4_ n5_; (try clear hb); (try clear hb2); (try clear hk); (try clear hi)) | ((with_reducible refine gate_callee (f := 30) rfl ?_); refine goesL_ (some 42) rfl rfl Try.func30 (by kernel_rfl) rfl #[.slice A1 l1.length c1] rfl (by (try simp only [List.map_toArray, List.map_cons, List.map_nil]); first | done | rfl | (simp only [List.length_drop, List.length_take]; rfl)) ?_; (with_reducible refine (laws_toPairS.calls k _ _ l1 t570 _ ?side1 ?side2 A30.out).mono ?_); (case side1 => repeat (first | exact (Kd.C_below HR1.out HB.out) | (with_reducible refine Kd.C_alloc ?_ _) | (with_reducible refine Kd.C_drewN ?_ _) | (with_reducible refine Kd.C_drew ?_))); (case side2 => exact HC1.out); rintro e w64 ⟨v571, rfl, ho0, hb⟩; refine ⟨_, rfl, ?_⟩; have n0_ := Aside0.mk (Kd.S_below (by (with_reducible repeat (first | apply Kd.S_alloc | apply Kd.S_drewN | apply Kd.S_drew)); exact HO554.out) hb); have n1_ := Aside0.mk (Kd.R_elder' (by (with_reducible repeat (first | apply Kd.R_alloc | apply Kd.R_drewN | apply Kd.R_drew)); exact HO557.out) (Kd.R_base ho0) hb); have n2_ := Aside0.mk (Kd.S_below (by (with_reducible repeat (first | apply Kd.S_alloc | apply Kd.S_drewN | apply Kd.S_drew)); exact HO561.out) hb); have n3_ := Aside0.mk (Kd.R_elder' (by (with_reducible repeat (first | apply Kd.R_alloc | apply Kd.R_drewN | apply Kd.R_drew)); exact HO564.out) (Kd.R_base ho0) hb); have n4_ := Aside0.mk (Kd.S_below (by (with_reducible repeat (first | apply Kd.S_alloc | apply Kd.S_drewN | apply Kd.S_drew)); exact HO568.out) hb); have n5_ := Aside0.mk (Kd.R_lower (Kd.R_new' (Kd.R_new' ho0 (Kd.R_lt (by (with_reducible repeat (first | apply Kd.R_alloc | apply Kd.R_drewN | apply Kd.R_drew)); exact HO557.out))) (Kd.R_lt (by (with_reducible repeat (first | apply Kd.R_alloc | apply Kd.R_drewN | apply Kd.R_drew)); exact HO564.out))) (below_size (by repeat (first | (with_reducible first | exact HB.out | apply below_alloc | apply pw_below_drewN | apply below_drew1) | exact HB.out)))); have n6_ := Aside0.mk (below_step (by repeat (first | (with_reducible first | exact HB.out | apply below_alloc | apply pw_below_drewN | apply below_drew1) | exact HB.out)) hb); clear HO554; clear HO557; clear HO561; clear HO564; clear HO568; clear HB; have HO554 := n0_; have HO557 := n1_; have HO561 := n2_; have HO564 := n3_; have HO568 := n4_; have HO572 := n5_; have HB := n6_; clear n0_ n1_ n2_ n3_ n4_ n5_ n6_; (try clear hb); (try clear hb2); (try clear hk); (try clear hi); (try clear ho0); obtain ⟨Ao65, co65, eo65⟩ := Kd.R_slice HO572.out; subst eo65) | ((with_reducible refine gate_callee (f := 32) rfl ?_); refine goesL_ (some 43) rfl rfl Try.func32 (by kernel_rfl) rfl #[.slice Ao59 t562.length co59, .slice Ao65 t570.length co65] rfl (by (try simp only [List.map_toArray, List.map_cons, List.map_nil]); first | done | rfl | (simp only [List.length_drop, List.length_take]; rfl)) ?_; (with_reducible refine (laws_eqPairS.calls k _ _ t562 _ _ t570 false _ ?side1 ?side2 ?side3 ?side4 A31.out).mono ?_); (case side1 => repeat (first | exact (Kd.R_reads' HO564.out).2.2 | (with_reducible refine Kd.C_alloc ?_ _) | (with_reducible refine Kd.C_drewN ?_ _) | (with_reducible refine Kd.C_drew ?_))); (case side2 => exact (Kd.R_reads' HO564.out).2.1); (case side3 => repeat (first | exact (Kd.R_reads' HO572.out).2.2 | (with_reducible refine Kd.C_alloc ?_ _) | (with_reducible refine Kd.C_drewN ?_ _) | (with_reducible refine Kd.C_drew ?_))); (case side4 => exact (Kd.R_reads' HO572.out).2.1); rintro e w66 ⟨rfl, hb⟩; refine ⟨_, rfl, ?_⟩; have n0_ := Aside0.mk (Kd.S_below (by (with_reducible repeat (first | apply Kd.S_alloc | apply Kd.S_drewN | apply Kd.S_drew)); exact HO554.out) hb); have n1_ := Aside0.mk (Kd.R_below (by (with_reducible repeat (first | apply Kd.R_alloc | apply Kd.R_drewN | apply Kd.R_drew)); exact HO557.out) hb); have n2_ := Aside0.mk (Kd.S_below (by (with_reducible repeat (first | apply Kd.S_alloc | apply Kd.S_drewN | apply Kd.S_drew)); exact HO561.out) hb); have n3_ := Aside0.mk (Kd.R_below (by (with_reducible repeat (first | apply Kd.R_alloc | apply Kd.R_drewN | apply Kd.R_drew)); exact HO564.out) hb); have n4_ := Aside0.mk (Kd.S_below (by (with_reducible repeat (first | apply Kd.S_alloc | apply Kd.S_drewN | apply Kd.S_drew)); exact HO568.out) hb); have n5_ := Aside0.mk (Kd.R_below (by (with_reducible repeat (first | apply Kd.R_alloc | apply Kd.R_drewN | apply Kd.R_drew)); exact HO572.out) hb); have n6_ := Aside0.mk (below_step (by repeat (first | (with_reducible first | exact HB.out | apply below_alloc | apply pw_below_drewN | apply below_drew1) | exact HB.out)) hb); clear HO554; clear HO557; clear HO561; clear HO564; clear HO568; clear HO572; clear HB; have HO554 := n0_; have HO557 := n1_; have HO561 := n2_; have HO564 := n3_; have HO568 := n4_; have HO572 := n5_; have HB := n6_; clear n0_ n1_ n2_ n3_ n4_ n5_ n6_; (try clear hb); (try clear hb2); (try clear hk); (try clear hi)))
      go_ret
      exact ⟨by first | rfl | (simp [errW_none, errW_some] <;> rfl) | (simp [*, errW_none, errW_some] <;> rfl), by repeat (first | (with_reducible first | exact HB.out | apply below_alloc | apply pw_below_drewN | apply below_drew1) | exact HB.out)⟩
    ·
     replace c29 := Bool.eq_false_iff.mpr c29
     subst c29
     have H1 : (some false) = some r := by rw [if_neg (show ¬ (false = true) by decide)] at H; exact H
     clear H
     have H := H1
     clear H1
     obtain rfl := Option.some.inj H
     go_enter Try.func12, Try.ntmps12
     go_wp2_with (first | ((with_reducible refine gate_callee (f := 15) rfl ?_); refine goesL_ (some 12) rfl rfl Try.func15 (by kernel_rfl) rfl #[.slice A0 l0.length c0, .int .i64 1048576] rfl (by (try simp only [List.map_toArray, List.map_cons, List.map_nil]); first | done | rfl | (simp only [List.length_drop, List.length_take]; rfl)) ?_; (with_reducible refine (laws_szTeamS.calls k _ _ l0 1048576 t550 _ ?side1 ?side2 A3.out).mono ?_); (case side1 => repeat (first | exact HR0.out | (with_reducible refine Kd.C_alloc ?_ _) | (with_reducible refine Kd.C_drewN ?_ _) | (with_reducible refine Kd.C_drew ?_))); (case side2 => exact HC0.out); rintro e w67 ⟨rfl, hb⟩; refine ⟨_, rfl, ?_⟩; have n0_ := Aside0.mk (below_step (by repeat (first | (with_reducible first | exact HB.out | apply below_alloc | apply pw_below_drewN | apply below_drew1) | exact HB.out)) hb); clear HB; have HB := n0_; clear n0_; (try clear hb); (try clear hb2); (try clear hk); (try clear hi)) | ((with_reducible refine gate_callee (f := 28) rfl ?_); refine goesL_ (some 17) rfl rfl Try.func28 (by kernel_rfl) rfl #[.slice A1 l1.length c1, .int .i64 t550] rfl (by (try simp only [List.map_toArray, List.map_cons, List.map_nil]); first | done | rfl | (simp only [List.length_drop, List.length_take]; rfl)) ?_; (with_reducible refine (laws_szPairS.calls _ _ l1 t550 t551 _ ?side1 ?side2 A6.out).mono ?_); (case side1 => repeat (first | exact (Kd.C_below HR1.out HB.out) | (with_reducible refine Kd.C_alloc ?_ _) | (with_reducible refine Kd.C_drewN ?_ _) | (with_reducible refine Kd.C_drew ?_))); (case side2 => exact HC1.out); rintro e w' ⟨rfl, ⟨nd, rfl⟩⟩; refine ⟨_, rfl, ?_⟩) | ((with_reducible refine gate_callee (f := 17) rfl ?_); refine goesL_ (some 21) rfl rfl Try.func17 (by kernel_rfl) rfl #[.slice A0 l0.length c0] rfl (by (try simp only [List.map_toArray, List.map_cons, List.map_nil]); first | done | rfl | (simp only [List.length_drop, List.length_take]; rfl)) ?_; (with_reducible refine (laws_toTeamS.calls k _ _ l0 t552 _ ?side1 ?side2 A9.out).mono ?_); (case side1 => repeat (first | exact (Kd.C_below HR0.out (by repeat (first | (with_reducible first | exact HB.out | apply below_alloc | apply pw_below_drewN | apply below_drew1) | exact HB.out))) | (with_reducible refine Kd.C_alloc ?_ _) | (with_reducible refine Kd.C_drewN ?_ _) | (with_reducible refine Kd.C_drew ?_))); (case side2 => exact HC0.out); rintro e w68 ⟨v553, rfl, ho0, hb⟩; refine ⟨_, rfl, ?_⟩; have n0_ := Aside0.mk (Kd.S_lower ho0 (below_size (by repeat (first | (with_reducible first | exact HB.out | apply below_alloc | apply pw_below_drewN | apply below_drew1) | exact HB.out)))); have n1_ := Aside0.mk (below_step (by repeat (first | (with_reducible first | exact HB.out | apply below_alloc | apply pw_below_drewN | apply below_drew1) | exact HB.out)) hb); clear HB; have HO554 := n0_; have HB := n1_; clear n0_ n1_; (try clear hb); (try clear hb2); (try clear hk); (try clear hi); (try clear ho0)) | ((with_reducible refine gate_callee (f := 30) rfl ?_); refine goesL_ (some 23) rfl rfl Try.func30 (by kernel_rfl) rfl #[.slice A1 l1.length c1] rfl (by (try simp only [List.map_toArray, List.map_cons, List.map_nil]); first | done | rfl | (simp only [List.length_drop, List.length_take]; rfl)) ?_; (with_reducible refine (laws_toPairS.calls k _ _ l1 t555 _ ?side1 ?side2 A10.out).mono ?_); (case side1 => repeat (first | exact (Kd.C_below HR1.out HB.out) | (with_reducible refine Kd.C_alloc ?_ _) | (with_reducible refine Kd.C_drewN ?_ _) | (with_reducible refine Kd.C_drew ?_))); (case side2 => exact HC1.out); rintro e w69 ⟨v556, rfl, ho0, hb⟩; refine ⟨_, rfl, ?_⟩; have n0_ := Aside0.mk (Kd.S_below (by (with_reducible repeat (first | apply Kd.S_alloc | apply Kd.S_drewN | apply Kd.S_drew)); exact HO554.out) hb); have n1_ := Aside0.mk (Kd.R_lower ho0 (below_size (by repeat (first | (with_reducible first | exact HB.out | apply below_alloc | apply pw_below_drewN | apply below_drew1) | exact HB.out)))); have n2_ := Aside0.mk (below_step (by repeat (first | (with_reducible first | exact HB.out | apply below_alloc | apply pw_below_drewN | apply below_drew1) | exact HB.out)) hb); clear HO554; clear HB; have HO554 := n0_; have HO557 := n1_; have HB := n2_; clear n0_ n1_ n2_; (try clear hb); (try clear hb2); (try clear hk); (try clear hi); (try clear ho0); obtain ⟨Ao70, co70, eo70⟩ := Kd.S_slice HO554.out; subst eo70; obtain ⟨Ao71, co71, eo71⟩ := Kd.R_slice HO557.out; subst eo71) | ((with_reducible refine gate_callee (f := 45) rfl ?_); refine goesL_ (some 24) rfl rfl Try.func45 (by kernel_rfl) rfl #[.slice Ao70 t552.length co70, .slice Ao71 t555.length co71] rfl (by (try simp only [List.map_toArray, List.map_cons, List.map_nil]); first | done | rfl | (simp only [List.length_drop, List.length_take]; rfl)) ?_; (with_reducible refine (spec_IsRound.calls k _ _ t552 _ _ t555 t558 _ ?side1 ?side2 ?side3 ?side4 A11.out).mono ?_); (case side1 => repeat (first | exact (Kd.S_reads' HO554.out).2.2 | (with_reducible refine Kd.C_alloc ?_ _) | (with_reducible refine Kd.C_drewN ?_ _) | (with_reducible refine Kd.C_drew ?_))); (case side2 => exact (Kd.S_reads' HO554.out).2.1); (case side3 => repeat (first | exact (Kd.R_reads' HO557.out).2.2 | (with_reducible refine Kd.C_alloc ?_ _) | (with_reducible refine Kd.C_drewN ?_ _) | (with_reducible refine Kd.C_drew ?_))); (case side4 => exact (Kd.R_reads' HO557.out).2.1); rintro e w72 ⟨rfl, hb⟩; refine ⟨_, rfl, ?_⟩; have n0_ := Aside0.mk (Kd.S_below (by (with_reducible repeat (first | apply Kd.S_alloc | apply Kd.S_drewN | apply Kd.S_drew)); exact HO554.out) hb); have n1_ := Aside0.mk (Kd.R_below (by (with_reducible repeat (first | apply Kd.R_alloc | apply Kd.R_drewN | apply Kd.R_drew)); exact HO557.out) hb); have n2_ := Aside0.mk (below_step (by repeat (first | (with_reducible first | exact HB.out | apply below_alloc | apply pw_below_drewN | apply below_drew1) | exact HB.out)) hb); clear HO554; clear HO557; clear HB; have HO554 := n0_; have HO557 := n1_; have HB := n2_; clear n0_ n1_ n2_; (try clear hb); (try clear hb2); (try clear hk); (try clear hi)) | ((with_reducible refine gate_callee (f := 17) rfl ?_); refine goesL_ (some 26) rfl rfl Try.func17 (by kernel_rfl) rfl #[.slice A0 l0.length c0] rfl (by (try simp only [List.map_toArray, List.map_cons, List.map_nil]); first | done | rfl | (simp only [List.length_drop, List.length_take]; rfl)) ?_; (with_reducible refine (laws_toTeamS.calls k _ _ l0 t559 _ ?side1 ?side2 A12.out).mono ?_); (case side1 => repeat (first | exact (Kd.C_below HR0.out HB.out) | (with_reducible refine Kd.C_alloc ?_ _) | (with_reducible refine Kd.C_drewN ?_ _) | (with_reducible refine Kd.C_drew ?_))); (case side2 => exact HC0.out); rintro e w73 ⟨v560, rfl, ho0, hb⟩; refine ⟨_, rfl, ?_⟩; have n0_ := Aside0.mk (Kd.S_elder' (by (with_reducible repeat (first | apply Kd.S_alloc | apply Kd.S_drewN | apply Kd.S_drew)); exact HO554.out) (Kd.S_base ho0) hb); have n1_ := Aside0.mk (Kd.R_below (by (with_reducible repeat (first | apply Kd.R_alloc | apply Kd.R_drewN | apply Kd.R_drew)); exact HO557.out) hb); have n2_ := Aside0.mk (Kd.S_lower (Kd.S_new' ho0 (Kd.S_lt (by (with_reducible repeat (first | apply Kd.S_alloc | apply Kd.S_drewN | apply Kd.S_drew)); exact HO554.out))) (below_size (by repeat (first | (with_reducible first | exact HB.out | apply below_alloc | apply pw_below_drewN | apply below_drew1) | exact HB.out)))); have n3_ := Aside0.mk (below_step (by repeat (first | (with_reducible first | exact HB.out | apply below_alloc | apply pw_below_drewN | apply below_drew1) | exact HB.out)) hb); clear HO554; clear HO557; clear HB; have HO554 := n0_; have HO557 := n1_; have HO561 := n2_; have HB := n3_; clear n0_ n1_ n2_ n3_; (try clear hb); (try clear hb2); (try clear hk); (try clear hi); (try clear ho0)) | ((with_reducible refine gate_callee (f := 30) rfl ?_); refine goesL_ (some 28) rfl rfl Try.func30 (by kernel_rfl) rfl #[.slice A1 l1.length c1] rfl (by (try simp only [List.map_toArray, List.map_cons, List.map_nil]); first | done | rfl | (simp only [List.length_drop, List.length_take]; rfl)) ?_; (with_reducible refine (laws_toPairS.calls k _ _ l1 t562 _ ?side1 ?side2 A13.out).mono ?_); (case side1 => repeat (first | exact (Kd.C_below HR1.out HB.out) | (with_reducible refine Kd.C_alloc ?_ _) | (with_reducible refine Kd.C_drewN ?_ _) | (with_reducible refine Kd.C_drew ?_))); (case side2 => exact HC1.out); rintro e w74 ⟨v563, rfl, ho0, hb⟩; refine ⟨_, rfl, ?_⟩; have n0_ := Aside0.mk (Kd.S_below (by (with_reducible repeat (first | apply Kd.S_alloc | apply Kd.S_drewN | apply Kd.S_drew)); exact HO554.out) hb); have n1_ := Aside0.mk (Kd.R_elder' (by (with_reducible repeat (first | apply Kd.R_alloc | apply Kd.R_drewN | apply Kd.R_drew)); exact HO557.out) (Kd.R_base ho0) hb); have n2_ := Aside0.mk (Kd.S_below (by (with_reducible repeat (first | apply Kd.S_alloc | apply Kd.S_drewN | apply Kd.S_drew)); exact HO561.out) hb); have n3_ := Aside0.mk (Kd.R_lower (Kd.R_new' ho0 (Kd.R_lt (by (with_reducible repeat (first | apply Kd.R_alloc | apply Kd.R_drewN | apply Kd.R_drew)); exact HO557.out))) (below_size (by repeat (first | (with_reducible first | exact HB.out | apply below_alloc | apply pw_below_drewN | apply below_drew1) | exact HB.out)))); have n4_ := Aside0.mk (below_step (by repeat (first | (with_reducible first | exact HB.out | apply below_alloc | apply pw_below_drewN | apply below_drew1) | exact HB.out)) hb); clear HO554; clear HO557; clear HO561; clear HB; have HO554 := n0_; have HO557 := n1_; have HO561 := n2_; have HO564 := n3_; have HB := n4_; clear n0_ n1_ n2_ n3_ n4_; (try clear hb); (try clear hb2); (try clear hk); (try clear hi); (try clear ho0); obtain ⟨Ao75, co75, eo75⟩ := Kd.S_slice HO561.out; subst eo75; obtain ⟨Ao76, co76, eo76⟩ := Kd.R_slice HO564.out; subst eo76) | ((with_reducible refine gate_callee (f := 46) rfl ?_); refine goesL_ (some 31) rfl rfl Try.func46 (by kernel_rfl) rfl #[.slice Ao75 t559.length co75, .slice Ao76 t562.length co76] rfl (by (try simp only [List.map_toArray, List.map_cons, List.map_nil]); first | done | rfl | (simp only [List.length_drop, List.length_take]; rfl)) ?_; (with_reducible refine (impl_IsRound.calls k _ _ t559 _ _ t562 t565 _ ?side1 ?side2 ?side3 ?side4 A14.out).mono ?_); (case side1 => repeat (first | exact (Kd.S_reads' HO561.out).2.2 | (with_reducible refine Kd.C_alloc ?_ _) | (with_reducible refine Kd.C_drewN ?_ _) | (with_reducible refine Kd.C_drew ?_))); (case side2 => exact (Kd.S_reads' HO561.out).2.1); (case side3 => repeat (first | exact (Kd.R_reads' HO564.out).2.2 | (with_reducible refine Kd.C_alloc ?_ _) | (with_reducible refine Kd.C_drewN ?_ _) | (with_reducible refine Kd.C_drew ?_))); (case side4 => exact (Kd.R_reads' HO564.out).2.1); rintro e w77 ⟨rfl, hb⟩; refine ⟨_, rfl, ?_⟩; have n0_ := Aside0.mk (Kd.S_below (by (with_reducible repeat (first | apply Kd.S_alloc | apply Kd.S_drewN | apply Kd.S_drew)); exact HO554.out) hb); have n1_ := Aside0.mk (Kd.R_below (by (with_reducible repeat (first | apply Kd.R_alloc | apply Kd.R_drewN | apply Kd.R_drew)); exact HO557.out) hb); have n2_ := Aside0.mk (Kd.S_below (by (with_reducible repeat (first | apply Kd.S_alloc | apply Kd.S_drewN | apply Kd.S_drew)); exact HO561.out) hb); have n3_ := Aside0.mk (Kd.R_below (by (with_reducible repeat (first | apply Kd.R_alloc | apply Kd.R_drewN | apply Kd.R_drew)); exact HO564.out) hb); have n4_ := Aside0.mk (below_step (by repeat (first | (with_reducible first | exact HB.out | apply below_alloc | apply pw_below_drewN | apply below_drew1) | exact HB.out)) hb); clear HO554; clear HO557; clear HO561; clear HO564; clear HB; have HO554 := n0_; have HO557 := n1_; have HO561 := n2_; have HO564 := n3_; have HB := n4_; clear n0_ n1_ n2_ n3_ n4_; (try clear hb); (try clear hb2); (try clear hk); (try clear hi)) | ((with_reducible refine gate_callee (f := 17) rfl ?_); refine goesL_ (some 37) rfl rfl Try.func17 (by kernel_rfl) rfl #[.slice A0 l0.length c0] rfl (by (try simp only [List.map_toArray, List.map_cons, List.map_nil]); first | done | rfl | (simp only [List.length_drop, List.length_take]; rfl)) ?_; (with_reducible refine (laws_toTeamS.calls k _ _ l0 t566 _ ?side1 ?side2 A27.out).mono ?_); (case side1 => repeat (first | exact (Kd.C_below HR0.out HB.out) | (with_reducible refine Kd.C_alloc ?_ _) | (with_reducible refine Kd.C_drewN ?_ _) | (with_reducible refine Kd.C_drew ?_))); (case side2 => exact HC0.out); rintro e w78 ⟨v567, rfl, ho0, hb⟩; refine ⟨_, rfl, ?_⟩; have n0_ := Aside0.mk (Kd.S_elder' (by (with_reducible repeat (first | apply Kd.S_alloc | apply Kd.S_drewN | apply Kd.S_drew)); exact HO554.out) (Kd.S_base ho0) hb); have n1_ := Aside0.mk (Kd.R_below (by (with_reducible repeat (first | apply Kd.R_alloc | apply Kd.R_drewN | apply Kd.R_drew)); exact HO557.out) hb); have n2_ := Aside0.mk (Kd.S_elder' (by (with_reducible repeat (first | apply Kd.S_alloc | apply Kd.S_drewN | apply Kd.S_drew)); exact HO561.out) (Kd.S_base ho0) hb); have n3_ := Aside0.mk (Kd.R_below (by (with_reducible repeat (first | apply Kd.R_alloc | apply Kd.R_drewN | apply Kd.R_drew)); exact HO564.out) hb); have n4_ := Aside0.mk (Kd.S_lower (Kd.S_new' (Kd.S_new' ho0 (Kd.S_lt (by (with_reducible repeat (first | apply Kd.S_alloc | apply Kd.S_drewN | apply Kd.S_drew)); exact HO554.out))) (Kd.S_lt (by (with_reducible repeat (first | apply Kd.S_alloc | apply Kd.S_drewN | apply Kd.S_drew)); exact HO561.out))) (below_size (by repeat (first | (with_reducible first | exact HB.out | apply below_alloc | apply pw_below_drewN | apply below_drew1) | exact HB.out)))); have n5_ := Aside0.mk (below_step (by repeat (first | (with_reducible first | exact HB.out | apply below_alloc | apply pw_below_drewN | apply below_drew1) | exact HB.out)) hb); clear HO554; clear HO557; clear HO561; clear HO564; clear HB; have HO554 := n0_; have HO557 := n1_; have HO561 := n2_; have HO564 := n3_; have HO568 := n4_; have HB := n5_; clear n0_ n1_ n2_ n3_ n4_ n5_; (try clear hb); (try clear hb2); (try clear hk); (try clear hi); (try clear ho0); obtain ⟨Ao79, co79, eo79⟩ := Kd.S_slice HO568.out; subst eo79) | ((with_reducible refine gate_callee (f := 19) rfl ?_); refine goesL_ (some 38) rfl rfl Try.func19 (by kernel_rfl) rfl #[.slice Ao75 t559.length co75, .slice Ao79 t566.length co79] rfl (by (try simp only [List.map_toArray, List.map_cons, List.map_nil]); first | done | rfl | (simp only [List.length_drop, List.length_take]; rfl)) ?_; (with_reducible refine (laws_eqTeamS.calls k _ _ t559 _ _ t566 false _ ?side1 ?side2 ?side3 ?side4 A28.out).mono ?_); (case side1 => repeat (first | exact (Kd.S_reads' HO561.out).2.2 | (with_reducible refine Kd.C_alloc ?_ _) | (with_reducible refine Kd.C_drewN ?_ _) | (with_reducible refine Kd.C_drew ?_))); (case side2 => exact (Kd.S_reads' HO561.out).2.1); (case side3 => repeat (first | exact (Kd.S_reads' HO568.out).2.2 | (with_reducible refine Kd.C_alloc ?_ _) | (with_reducible refine Kd.C_drewN ?_ _) | (with_reducible refine Kd.C_drew ?_))); (case side4 => exact (Kd.S_reads' HO568.out).2.1); rintro e w80 ⟨rfl, hb⟩; refine ⟨_, rfl, ?_⟩; have n0_ := Aside0.mk (Kd.S_below (by (with_reducible repeat (first | apply Kd.S_alloc | apply Kd.S_drewN | apply Kd.S_drew)); exact HO554.out) hb); have n1_ := Aside0.mk (Kd.R_below (by (with_reducible repeat (first | apply Kd.R_alloc | apply Kd.R_drewN | apply Kd.R_drew)); exact HO557.out) hb); have n2_ := Aside0.mk (Kd.S_below (by (with_reducible repeat (first | apply Kd.S_alloc | apply Kd.S_drewN | apply Kd.S_drew)); exact HO561.out) hb); have n3_ := Aside0.mk (Kd.R_below (by (with_reducible repeat (first | apply Kd.R_alloc | apply Kd.R_drewN | apply Kd.R_drew)); exact HO564.out) hb); have n4_ := Aside0.mk (Kd.S_below (by (with_reducible repeat (first | apply Kd.S_alloc | apply Kd.S_drewN | apply Kd.S_drew)); exact HO568.out) hb); have n5_ := Aside0.mk (below_step (by repeat (first | (with_reducible first | exact HB.out | apply below_alloc | apply pw_below_drewN | apply below_drew1) | exact HB.out)) hb); clear HO554; clear HO557; clear HO561; clear HO564; clear HO568; clear HB; have HO554 := n0_; have HO557 := n1_; have HO561 := n2_; have HO564 := n3_; have HO568 := n4_; have HB := n5_; clear n0_ n1_ n2_ n3_ n4_ n5_; (try clear hb); (try clear hb2); (try clear hk); (try clear hi)))
     go_ret
     exact ⟨by first | rfl | (simp [errW_none, errW_some] <;> rfl) | (simp [*, errW_none, errW_some] <;> rfl), by repeat (first | (with_reducible first | exact HB.out | apply below_alloc | apply pw_below_drewN | apply below_drew1) | exact HB.out)⟩
end Go.Proofs.Ytiimiogpiflkdaa.A
end

section
set_option linter.unusedVariables false
namespace Go.Proofs.Ytiimiogpiflkdaa.Open
open Go.ChangeShapes Go.WideShapes Go.Deep Go.RowKit Go.Proofs.YtiimiogpiflkdaaW.PrintWords
def Opn (P : Program) (t : TypeId) {α : Type} (d : Kd α) : Prop :=
  ∀ (H : Type) (enc : TypeId × Value → H) (w : World) (base : Nat) (spare : Nat → Bool) (held : Bool) (fuel : Nat) (cs : List Value) (y : DataW H × List MemPlace),
    DataW.trod enc P w base spare held fuel t cs = some y → ∃ x : α, d.K w x cs
def OpnL (P : Program) (fs : List Field) {α : Type} (d : Kd α) : Prop :=
  ∀ (H : Type) (enc : TypeId × Value → H) (w : World) (base : Nat) (spare : Nat → Bool) (held : Bool) (cs : List Value), cs.length = fs.length →
    (∀ (j : Nat) (f : Field) (c : Value), fs[j]? = some f → cs[j]? = some c → ∃ (n : Nat) (y : DataW H × List MemPlace), DataW.trod enc P w base spare held n f.type [c] = some y) → ∃ x : α, d.K w x cs
theorem opn_int {P : Program} {t : TypeId} {k : IntKind} (ht : P.underlying t = some (.int k)) : Opn P t (Kd.int k) := by
  intro H enc w base spare held fuel cs y h
  obtain ⟨n, rfl, _⟩ := DataW.trod_int ht h
  exact ⟨n, rfl⟩
theorem opnL_one {P : Program} {f : Field} {α : Type} {d : Kd α} (h : Opn P f.type d) : OpnL P [f] d := by
  intro H enc w base spare held cs hl hf
  match cs, hl with
  | [c], _ =>
    obtain ⟨n, y, hy⟩ := hf 0 f c rfl rfl
    exact h H enc w base spare held n [c] y hy
theorem opnL_cons {P : Program} {f : Field} {fs : List Field} {α β : Type} {a : Kd α} {b : Kd β} (h : Opn P f.type a) (hs : OpnL P fs b) : OpnL P (f :: fs) (Kd.pair a b) := by
  intro H enc w base spare held cs hl hf
  match cs, hl with
  | c :: cs, hl =>
    obtain ⟨n, y, hy⟩ := hf 0 f c rfl rfl
    obtain ⟨x, hx⟩ := h H enc w base spare held n [c] y hy
    obtain ⟨z, hz⟩ := hs H enc w base spare held cs (by simpa using hl) (fun j f' c' h1 h2 => hf (j + 1) f' c' (by simpa using h1) (by simpa using h2))
    exact ⟨(x, z), [c], cs, rfl, hx, hz⟩
theorem opn_struct {P : Program} {t : TypeId} {fs : Array Field} (ht : P.underlying t = some (.struct fs)) (hone : oneCellFields P fs = true) (hC : P.cellsOf t = fs.size)
    {α : Type} {d : Kd α} (hL : OpnL P fs.toList d) : Opn P t d := by
  intro H enc w base spare held fuel cs y h
  obtain ⟨xs, n, _, _, hlen, hxl, hf⟩ := DataW.trod_struct ht h
  refine hL H enc w base spare held cs (by rw [hlen, hC, Array.length_toList]) (fun j f c hj hc => ?_)
  have hj' : fs[j]? = some f := by simpa using hj
  obtain ⟨ho, hk⟩ := hone_of hone j f hj'
  have h1 := hf j f hj'
  rw [ho, hk] at h1
  have hjl : j < fs.size := (Array.getElem?_eq_some_iff.1 hj').1
  have hcl : j < cs.length := (List.getElem?_eq_some_iff.1 hc).1
  have e1 : (cs.drop j).take 1 = [c] := by
    rw [List.drop_eq_getElem_cons hcl]
    have : cs[j] = c := (List.getElem?_eq_some_iff.1 hc).2
    rw [this]; rfl
  rw [e1] at h1
  exact ⟨n, xs[j]'(by omega), h1.trans (List.getElem?_eq_getElem (by omega))⟩
theorem opn_iso {P : Program} {t : TypeId} {α β : Type} {d : Kd α} {f : β → α} (h : Opn P t d) (hs : ∀ a, ∃ b, f b = a) : Opn P t (Kd.iso d f) := by
  intro H enc w base spare held fuel cs y hy
  obtain ⟨x, hx⟩ := h H enc w base spare held fuel cs y hy
  obtain ⟨z, rfl⟩ := hs x
  exact ⟨z, hx⟩
theorem list_of {α : Type} {p : Nat → α → Prop} : ∀ n, (∀ i, i < n → ∃ x, p i x) → ∃ l : List α, l.length = n ∧ ∀ i x, l[i]? = some x → p i x
  | 0, _ => ⟨[], rfl, fun i x h => by simp at h⟩
  | n + 1, h => by
    obtain ⟨l, hl, hp⟩ := list_of n (fun i hi => h i (by omega))
    obtain ⟨x, hx⟩ := h n (by omega)
    refine ⟨l ++ [x], by simp [hl], fun i y hy => ?_⟩
    rcases Nat.lt_or_ge i l.length with hi | hi
    · rw [List.getElem?_append_left hi] at hy
      exact hp i y hy
    · have hi' : i = l.length := by
        have := (List.getElem?_eq_some_iff.1 hy).1
        rw [List.length_append, List.length_singleton] at this
        omega
      subst hi'
      have : x = y := by simpa using hy
      subst this
      rw [hl]
      exact hx
theorem opn_slice {P : Program} {t e : TypeId} {α : Type} {d : Kd α} (ht : P.underlying t = some (.slice e)) (hC : P.cellsOf e = d.sz) (he : Opn P e d) : Opn P t (Kd.slice e d) := by
  intro H enc w base spare held fuel cs y h
  rcases open_slice ht h with ⟨rfl, _⟩ | ⟨a, len, cap, m, n, D, Pl, rfl, hb, hl, hm, hmm, hx, hi⟩
  · exact ⟨[], none, 0, rfl, Nat.le_refl _, rfl, by simp, fun h => absurd h (by simp)⟩
  · have hlm : len ≤ m := by rw [hmm]; split <;> omega
    obtain ⟨xs, hxl, hp⟩ := list_of (p := fun i x => ∃ cs', w.cells? base (a.add (i * P.cellsOf e)) (P.cellsOf e) = some cs' ∧ d.K w x cs') len (fun i hil => by
      obtain ⟨cs', h1, h2⟩ := hi i (by omega)
      obtain ⟨x, hx⟩ := he H enc w base spare held n cs' _ h2
      exact ⟨x, cs', h1, hx⟩)
    refine ⟨xs, some a, cap, by rw [hxl], by omega, rfl, by unfold maxLen at hm; omega, fun _ => ⟨a, rfl, fun j p hj => ?_⟩⟩
    obtain ⟨cs', hc, hk⟩ := hp j p hj
    obtain ⟨_, hcl, hat⟩ := World.cells?_some hc
    refine ⟨cs', d.K_len hk, hk, fun i u hu => ?_⟩
    have hil : i < cs'.length := (List.getElem?_eq_some_iff.1 hu).1
    have := hat i (by omega)
    rw [Go.Deep.add_add, hC] at this
    rw [this]
    exact hu
theorem opened {H : Type} {enc : TypeId × Value → H} {P : Program} {W : World} {base : Nat} {spare : Nat → Bool} {held : Bool} {t e : TypeId} {α : Type} {d : Kd α} (h : Opn P t (Kd.slice e d)) {a : Option Addr} {len cap : Nat} {dd : DataW H} {ps : List MemPlace}
    (ht : DataW.Trod enc P W base spare held t (.slice a len cap) dd ps) : ∃ l : List α, l.length = len ∧ l.length ≤ cap ∧ d.C W a l.length l := by
  obtain ⟨fuel, hf⟩ := ht
  obtain ⟨l, A, c, he, hl, hc⟩ := h H enc W base spare held fuel _ _ hf
  simp [Value.cells] at he
  obtain ⟨rfl, rfl, rfl⟩ := he
  exact ⟨l, rfl, hl, hc⟩
theorem C_mem {α : Type} {d : Kd α} {w : World} {A : Option Addr} {n : Nat} {xs : List α} (h : d.C w A n xs) (x : α) (hx : x ∈ xs) : ∃ c, d.K w x c := by
  obtain ⟨j, hj, rfl⟩ := List.mem_iff_getElem.1 hx
  have h0 : 0 < n := by have := h.1; omega
  obtain ⟨ad, _, hc⟩ := h.2.2 h0
  obtain ⟨c, _, hk, _⟩ := hc j _ (List.getElem?_eq_getElem hj)
  exact ⟨c, hk⟩
end Go.Proofs.Ytiimiogpiflkdaa.Open
end

section
set_option linter.unusedVariables false
set_option linter.unusedSimpArgs false
namespace Go.Proofs.Ytiimiogpiflkdaa.L
open Go Go.RowKit Go.Proofs.YtiimiogpiflkdaaW.PrintWords
theorem Ev.pos {α : Type} {c : Prop} [Decidable c] {A B : Nat → Option α} {r : α} (h : c) (k : Ev A r) : Ev (fun k => if c then A k else B k) r := by
  obtain ⟨K, k⟩ := k
  exact ⟨K, fun n hn => by show (if c then A n else B n) = some r; rw [if_pos h]; exact k n hn⟩
theorem Ev.neg {α : Type} {c : Prop} [Decidable c] {A B : Nat → Option α} {r : α} (h : ¬ c) (k : Ev B r) : Ev (fun k => if c then A k else B k) r := by
  obtain ⟨K, k⟩ := k
  exact ⟨K, fun n hn => by show (if c then A n else B n) = some r; rw [if_neg h]; exact k n hn⟩
theorem Ev.ite {α : Type} {c : Prop} [Decidable c] {A B : Nat → Option α} {r : α} (h : c → Ev A r) (k : ¬ c → Ev B r) : Ev (fun k => if c then A k else B k) r := by
  by_cases e : c
  · exact Ev.pos e (h e)
  · exact Ev.neg e (k e)
theorem Ev.cast {α : Type} {g : Nat → Option α} {r r' : α} (h : Ev g r) (e : r = r') : Ev g r' := e ▸ h
theorem Ev.bnd {α β : Type} {o : Option α} {a : α} {f : Nat → α → Option β} {r : β} (h : o = some a) (k : Ev (fun n => f n a) r) : Ev (fun n => o.bind (f n)) r := by
  obtain ⟨K, k⟩ := k
  exact ⟨K, fun n hn => by show o.bind (f n) = some r; rw [h]; exact k n hn⟩
theorem Ev.some_ {α : Type} {r r' : α} (h : r = r') : Ev (fun _ => some r) r' := h ▸ Ev.now r
theorem w64 {x : Int} (h0 : -9223372036854775808 ≤ x) (h1 : x ≤ 9223372036854775807) : wrap64 x = x := by
  unfold wrap64
  omega
theorem w64s {n : Nat} (h : n < 4611686018427387904) : wrap64 ((n : Int) + 1) = ((n + 1 : Nat) : Int) := by
  unfold wrap64
  omega
theorem rd_at {l : List Int} {n : Nat} (h : n < l.length) : rd l (n : Int) = l[n] := by
  simp [rd, h]
def inR (a b c : Int) : Bool := decide (b ≤ a ∧ a ≤ c)
end Go.Proofs.Ytiimiogpiflkdaa.L
end

section
set_option linter.unusedVariables false
set_option linter.unusedSimpArgs false
namespace Go.Proofs.Ytiimiogpiflkdaa.L
open Go Go.RowKit Go.Proofs.Ytiimiogpiflkdaa.A Go.Proofs.YtiimiogpiflkdaaW.PrintWords
theorem toIntS_l0 (l : List Int) (hl : l.length ≤ 1099511627776) : ∀ (d n : Nat) (xs : List Int), n + d = l.length → xs.length = l.length → xs.take n = l.take n → Ev (fun k => laws_toIntS.l0 k l xs (n : Int)) l := by
  intro d
  induction d with
  | zero =>
    intro n xs hd hx ht
    refine Ev.step (fun k => laws_toIntS.l0.eq_2 ..) ?_
    refine Ev.neg (by omega) (Ev.some_ ?_)
    rw [List.take_of_length_le (by omega), List.take_of_length_le (by omega)] at ht
    exact ht
  | succ d ih =>
    intro n xs hd hx ht
    refine Ev.step (fun k => laws_toIntS.l0.eq_2 ..) ?_
    refine Ev.pos (by omega) (Ev.pos (by omega) (Ev.pos (by omega) ?_))
    simp only [w64s (show n < 4611686018427387904 by omega), rd_at (show n < l.length by omega), Int.toNat_natCast]
    refine ih (n + 1) _ (by omega) (by simp [hx]) ?_
    rw [List.take_succ_eq_append_getElem (by simp; omega), List.take_succ_eq_append_getElem (by omega), List.take_set_of_le (by omega), ht]
    simp
theorem toIntS_ev (l : List Int) (hl : l.length ≤ 1099511627776) : Ev (fun k => laws_toIntS.f k l) l := by
  unfold laws_toIntS.f
  refine Ev.pos (by omega) (Ev.pos (by simp; omega) ?_)
  exact toIntS_l0 l hl l.length 0 _ (by omega) (by simp) (by simp)
theorem eqIntS_l0 (l m : List Int) (hl : l.length ≤ 1099511627776) (hm : l.length = m.length) : ∀ (d n : Nat), n + d = l.length → Ev (fun k => laws_eqIntS.l0 k l m (n : Int)) (decide (l.drop n = m.drop n)) := by
  intro d
  induction d with
  | zero =>
    intro n hd
    refine Ev.step (fun k => laws_eqIntS.l0.eq_2 ..) ?_
    refine Ev.neg (by omega) (Ev.some_ ?_)
    rw [List.drop_eq_nil_of_le (by omega), List.drop_eq_nil_of_le (by omega)]
    simp
  | succ d ih =>
    intro n hd
    refine Ev.step (fun k => laws_eqIntS.l0.eq_2 ..) ?_
    refine Ev.pos (by omega) (Ev.pos (by omega) (Ev.pos (by omega) ?_))
    simp only [w64s (show n < 4611686018427387904 by omega), rd_at (show n < l.length by omega), rd_at (show n < m.length by omega)]
    have h1 := ih (n + 1) (by omega)
    rw [List.drop_eq_getElem_cons (show n < l.length by omega), List.drop_eq_getElem_cons (show n < m.length by omega)]
    generalize l.drop (n + 1) = u at h1 ⊢
    generalize m.drop (n + 1) = v at h1 ⊢
    refine Ev.ite (fun h => Ev.cast h1 ?_) (fun h => Ev.some_ ?_)
    · simp [h]
    · simp [h]
theorem eqIntS_ev (l m : List Int) (hl : l.length ≤ 1099511627776) : Ev (fun k => laws_eqIntS.f k l m) (decide (l = m)) := by
  unfold laws_eqIntS.f
  refine Ev.ite (fun h => Ev.cast (eqIntS_l0 l m hl (by omega) l.length 0 (by omega)) (by simp)) (fun h => Ev.some_ ?_)
  have : l ≠ m := fun e => h (by rw [e])
  simp [this]
end Go.Proofs.Ytiimiogpiflkdaa.L
end

section
set_option linter.unusedVariables false
set_option linter.unusedSimpArgs false
namespace Go.Proofs.Ytiimiogpiflkdaa.L
open Go Go.RowKit Go.Proofs.Ytiimiogpiflkdaa.A Go.Proofs.YtiimiogpiflkdaaW.PrintWords
abbrev Tm := S61
theorem rdTm {l : List Tm} {n : Nat} (h : n < l.length) : rd_T61 l (n : Int) = l[n] := by
  simp [rd_T61, h]
theorem rdLTm {l : List S64} {n : Nat} (h : n < l.length) : rd_T64 l (n : Int) = l[n] := by
  simp [rd_T64, h]
def cvTm (x : S64) : Tm := ⟨x.f0, x.f1, x.f2, x.f3, x.f4, x.f5⟩
def Small (l : List Tm) : Prop := l.length ≤ 1099511627776 ∧ ∀ x ∈ l, x.f5.length ≤ 1099511627776
theorem szInt_eq (l : List Int) (left : Int) (h0 : 0 ≤ left) (h1 : left ≤ 1048576) (hl : l.length ≤ 9223372036854775807) : laws_szIntS.f l left = some (if left - l.length < 0 then -1 else left - l.length) := by
  unfold laws_szIntS.f
  rw [w64 (by omega) (by omega)]
  split <;> rfl
theorem szTeamS_l0 (l : List S64) (hl : l.length ≤ 1048576) (hi : ∀ x ∈ l, x.f5.length ≤ 9223372036854775807) : ∀ (d n : Nat) (left : Int), n + d = l.length → 0 ≤ left → left ≤ 1048576 → (∀ (i : Nat) (h : i < n) (h' : i < l.length), (l[i]).f5.length ≤ 1048576) → ∃ v, Ev (fun k => laws_szTeamS.l0 k l left (n : Int)) v ∧ v ≤ 1048576 ∧ (0 ≤ v → ∀ x ∈ l, x.f5.length ≤ 1048576) := by
  intro d
  induction d with
  | zero =>
    intro n left hd h0 h1 hp
    refine ⟨left, Ev.step (fun k => laws_szTeamS.l0.eq_2 ..) (Ev.neg (by omega) (Ev.now _)), h1, fun _ x hx => ?_⟩
    obtain ⟨j, hj, rfl⟩ := List.mem_iff_getElem.1 hx
    exact hp j (by omega) hj
  | succ d ih =>
    intro n left hd h0 h1 hp
    have hn : n < l.length := by omega
    have hs := szInt_eq (l[n]).f5 left h0 h1 (hi _ (List.getElem_mem _))
    by_cases hb : left - (l[n]).f5.length < 0
    · rw [if_pos hb] at hs
      have hs2 : laws_szTeam.f (l[n]).f0 (l[n]).f1 (l[n]).f2 (l[n]).f3 (l[n]).f4 (l[n]).f5 left = some (-1) := by
        unfold laws_szTeam.f
        rw [hs]
        rfl
      refine ⟨-1, Ev.step (fun k => laws_szTeamS.l0.eq_2 ..) (Ev.pos (by omega) (Ev.pos (by omega) ?_)), by omega, fun h => by omega⟩
      simp only [rdLTm hn]
      exact Ev.bnd hs2 (Ev.pos (by omega) (Ev.now _))
    · rw [if_neg hb] at hs
      have hs2 : laws_szTeam.f (l[n]).f0 (l[n]).f1 (l[n]).f2 (l[n]).f3 (l[n]).f4 (l[n]).f5 left = some (left - (l[n]).f5.length) := by
        unfold laws_szTeam.f
        rw [hs]
        simp only [Option.bind_some]
        rw [if_neg hb]
      obtain ⟨v, hv, hv1, hv2⟩ := ih (n + 1) (left - (l[n]).f5.length) (by omega) (by omega) (by omega) (fun i h h' => by
        by_cases e : i = n
        · subst e
          omega
        · exact hp i (by omega) h')
      refine ⟨v, Ev.step (fun k => laws_szTeamS.l0.eq_2 ..) (Ev.pos (by omega) (Ev.pos (by omega) ?_)), hv1, hv2⟩
      simp only [rdLTm hn, w64s (show n < 4611686018427387904 by omega)]
      exact Ev.bnd hs2 (Ev.neg (by omega) hv)
theorem szTeamS_ev (l : List S64) (hl : l.length ≤ 9223372036854775807) (hi : ∀ x ∈ l, x.f5.length ≤ 9223372036854775807) : ∃ v, Ev (fun k => laws_szTeamS.f k l 1048576) v ∧ v ≤ 1048576 ∧ (¬ v < 0 → l.length ≤ 1048576 ∧ ∀ x ∈ l, x.f5.length ≤ 1048576) := by
  unfold laws_szTeamS.f
  rw [w64 (by omega) (by omega)]
  by_cases hb : 1048576 - (l.length : Int) < 0
  · exact ⟨-1, Ev.pos hb (Ev.now _), by omega, fun h => by omega⟩
  · obtain ⟨v, hv, hv1, hv2⟩ := szTeamS_l0 l (by omega) hi l.length 0 (1048576 - l.length) (by omega) (by omega) (by omega) (fun i h => by omega)
    exact ⟨v, Ev.neg hb hv, hv1, fun h => ⟨by omega, hv2 (by omega)⟩⟩
theorem toTeam_ev (x : S64) (h : x.f5.length ≤ 1099511627776) : Ev (fun k => laws_toTeam.f k x.f0 x.f1 x.f2 x.f3 x.f4 x.f5) (x.f0, x.f1, x.f2, x.f3, x.f4, x.f5) := by
  unfold laws_toTeam.f
  exact Ev.bind (toIntS_ev x.f5 h) (Ev.now _)
theorem toTeamS_l0 (l : List S64) (hl : l.length ≤ 1099511627776) (hi : ∀ x ∈ l, x.f5.length ≤ 1099511627776) : ∀ (d n : Nat) (xs : List Tm), n + d = l.length → xs.length = l.length → xs.take n = (l.map cvTm).take n → Ev (fun k => laws_toTeamS.l0 k l xs (n : Int)) (l.map cvTm) := by
  intro d
  induction d with
  | zero =>
    intro n xs hd hx ht
    refine Ev.step (fun k => laws_toTeamS.l0.eq_2 ..) ?_
    refine Ev.neg (by omega) (Ev.some_ ?_)
    rw [List.take_of_length_le (by omega), List.take_of_length_le (by simp; omega)] at ht
    exact ht
  | succ d ih =>
    intro n xs hd hx ht
    refine Ev.step (fun k => laws_toTeamS.l0.eq_2 ..) ?_
    refine Ev.pos (by omega) (Ev.pos (by omega) ?_)
    simp only [w64s (show n < 4611686018427387904 by omega), rdLTm (show n < l.length by omega), Int.toNat_natCast]
    refine Ev.bind (toTeam_ev l[n] (hi _ (List.getElem_mem _))) (Ev.pos (by omega) ?_)
    refine ih (n + 1) _ (by omega) (by simp [hx]) ?_
    rw [List.take_succ_eq_append_getElem (by simp; omega), List.take_succ_eq_append_getElem (by simp; omega), List.take_set_of_le (by omega), ht]
    simp [cvTm]
theorem toTeamS_ev (l : List S64) (hl : l.length ≤ 1099511627776) (hi : ∀ x ∈ l, x.f5.length ≤ 1099511627776) : Ev (fun k => laws_toTeamS.f k l) (l.map cvTm) := by
  unfold laws_toTeamS.f
  refine Ev.pos (by omega) (Ev.pos (by simp; omega) ?_)
  exact toTeamS_l0 l hl hi l.length 0 _ (by omega) (by simp) (by simp)
theorem small_map (l : List S64) (hl : l.length ≤ 1099511627776) (hi : ∀ x ∈ l, x.f5.length ≤ 1099511627776) : Small (l.map cvTm) := by
  refine ⟨by simpa using hl, fun x hx => ?_⟩
  obtain ⟨y, hy, rfl⟩ := List.mem_map.1 hx
  exact hi y hy
theorem eqTeam_ev (x : Tm) (h : x.f5.length ≤ 1099511627776) : Ev (fun k => laws_eqTeam.f k x.f0 x.f1 x.f2 x.f3 x.f4 x.f5 x.f0 x.f1 x.f2 x.f3 x.f4 x.f5) true := by
  unfold laws_eqTeam.f
  exact Ev.pos rfl (Ev.pos rfl (Ev.pos rfl (Ev.pos rfl (Ev.pos rfl (Ev.bind (eqIntS_ev _ _ h) (Ev.pos (by simp) (Ev.now _)))))))
theorem eqTeamS_l0 (l : List Tm) (hs : Small l) : ∀ (d n : Nat), n + d = l.length → Ev (fun k => laws_eqTeamS.l0 k l l (n : Int)) true := by
  have hl := hs.1
  intro d
  induction d with
  | zero =>
    intro n hd
    refine Ev.step (fun k => laws_eqTeamS.l0.eq_2 ..) ?_
    exact Ev.neg (by omega) (Ev.now _)
  | succ d ih =>
    intro n hd
    refine Ev.step (fun k => laws_eqTeamS.l0.eq_2 ..) ?_
    refine Ev.pos (by omega) (Ev.pos (by omega) (Ev.pos (by omega) ?_))
    simp only [w64s (show n < 4611686018427387904 by omega), rdTm (show n < l.length by omega)]
    exact Ev.bind (eqTeam_ev l[n] (hs.2 _ (List.getElem_mem _))) (Ev.pos rfl (ih (n + 1) (by omega)))
theorem eqTeamS_ev (l : List Tm) (hs : Small l) : Ev (fun k => laws_eqTeamS.f k l l) true := by
  unfold laws_eqTeamS.f
  exact Ev.pos rfl (eqTeamS_l0 l hs l.length 0 (by omega))
end Go.Proofs.Ytiimiogpiflkdaa.L
end

section
set_option linter.unusedVariables false
set_option linter.unusedSimpArgs false
namespace Go.Proofs.Ytiimiogpiflkdaa.L
open Go Go.RowKit Go.Proofs.Ytiimiogpiflkdaa.A Go.Proofs.YtiimiogpiflkdaaW.PrintWords
def findT (l : List Tm) (id : Int) : Int := fidx (fun t => decide (t.f0 = id)) l
theorem iFindTeam_eq (l : List Tm) (id : Int) : impl_FindTeam.f l id = some (findT l id) := rfl
theorem fidx_cons {α : Type} (p : α → Bool) (x : α) (l : List α) : fidx p (x :: l) = if p x = true then 0 else if fidx p l < 0 then -1 else fidx p l + 1 := by
  unfold fidx
  rw [List.findIdx?_cons]
  by_cases h : p x = true
  · simp [h]
  · rw [if_neg h, if_neg h]
    cases l.findIdx? p with
    | none => simp
    | some i =>
      simp only [Option.map_some]
      rw [if_neg (by omega)]
      omega
theorem fidx_nil {α : Type} (p : α → Bool) : fidx p ([] : List α) = -1 := rfl
theorem fidx_range {α : Type} (p : α → Bool) : ∀ l : List α, -1 ≤ fidx p l ∧ fidx p l < l.length
  | [] => by simp [fidx_nil]
  | x :: l => by
    have := fidx_range p l
    rw [fidx_cons]
    simp only [List.length_cons]
    split
    · omega
    · split <;> omega
theorem fidx_at {α : Type} (p : α → Bool) (l : List α) (h : 0 ≤ fidx p l) : ∃ (hl : (fidx p l).toNat < l.length), p (l[(fidx p l).toNat]) = true := by
  unfold fidx at h ⊢
  cases e : l.findIdx? p with
  | none => rw [e] at h; simp at h
  | some i =>
    rw [List.findIdx?_eq_some_iff_getElem] at e
    obtain ⟨hi, hp, _⟩ := e
    exact ⟨by simpa using hi, by simpa using hp⟩
theorem sFindTeam_l0 (l : List Tm) (id : Int) (hl : l.length ≤ 1099511627776) : ∀ (d n : Nat), n + d = l.length → Ev (fun k => spec_FindTeam.l0 k l id (n : Int)) (if findT (l.drop n) id < 0 then -1 else n + findT (l.drop n) id) := by
  intro d
  induction d with
  | zero =>
    intro n hd
    refine Ev.step (fun k => spec_FindTeam.l0.eq_2 ..) ?_
    refine Ev.neg (by omega) (Ev.some_ ?_)
    rw [List.drop_eq_nil_of_le (by omega)]
    simp [findT, fidx_nil]
  | succ d ih =>
    intro n hd
    refine Ev.step (fun k => spec_FindTeam.l0.eq_2 ..) ?_
    refine Ev.pos (by omega) (Ev.pos (by omega) ?_)
    simp only [w64s (show n < 4611686018427387904 by omega), rdTm (show n < l.length by omega)]
    have h1 := ih (n + 1) (by omega)
    rw [List.drop_eq_getElem_cons (show n < l.length by omega)]
    generalize l.drop (n + 1) = u at h1 ⊢
    have hr := fidx_range (fun t : Tm => decide (t.f0 = id)) u
    refine Ev.ite (fun h => Ev.some_ ?_) (fun h => Ev.cast h1 ?_)
    · simp [findT, fidx_cons, h]
    · have e : findT (l[n] :: u) id = if findT u id < 0 then -1 else findT u id + 1 := by
        unfold findT
        rw [fidx_cons, if_neg (by simpa using h)]
      rw [e]
      have hr' : -1 ≤ findT u id := hr.1
      by_cases hu : findT u id < 0
      · simp [hu]
      · have h2 : ¬ findT u id + 1 < 0 := by omega
        rw [if_neg hu, if_neg hu, if_neg h2]
        omega
theorem sFindTeam_ev (l : List Tm) (id : Int) (hl : l.length ≤ 1099511627776) : Ev (fun k => spec_FindTeam.f k l id) (findT l id) := by
  unfold spec_FindTeam.f
  refine Ev.cast (sFindTeam_l0 l id hl l.length 0 (by omega)) ?_
  have hr := fidx_range (fun t : Tm => decide (t.f0 = id)) l
  simp only [List.drop_zero]
  split
  · unfold findT at *
    omega
  · omega
theorem findT_range (l : List Tm) (id : Int) : -1 ≤ findT l id ∧ findT l id < l.length := fidx_range _ l
theorem rdTm_int {l : List Tm} {i : Int} (h0 : 0 ≤ i) (h1 : i < l.length) : ∃ h : i.toNat < l.length, rd_T61 l i = l[i.toNat] := by
  refine ⟨by omega, ?_⟩
  obtain ⟨m, rfl⟩ : ∃ m : Nat, i = m := ⟨i.toNat, by omega⟩
  rw [rdTm (by omega)]
  simp
theorem rdTm_mem {l : List Tm} {i : Int} (h0 : 0 ≤ i) (h1 : i < l.length) : rd_T61 l i ∈ l := by
  obtain ⟨h, e⟩ := rdTm_int h0 h1
  rw [e]
  exact List.getElem_mem _
end Go.Proofs.Ytiimiogpiflkdaa.L
end

section
set_option linter.unusedVariables false
set_option linter.unusedSimpArgs false
namespace Go.Proofs.Ytiimiogpiflkdaa.L
open Go Go.RowKit Go.Proofs.Ytiimiogpiflkdaa.A Go.Proofs.YtiimiogpiflkdaaW.PrintWords
theorem l19Count_l0 (l : List Int) (x : Int) (hl : l.length ≤ 1099511627776) : ∀ (d n c : Nat), n + d = l.length → c ≤ n → Ev (fun k => spec_l19Count.l0 k l x (c : Int) (n : Int)) ((c + (l.drop n).count x : Nat) : Int) := by
  intro d
  induction d with
  | zero =>
    intro n c hd hc
    refine Ev.step (fun k => spec_l19Count.l0.eq_2 ..) ?_
    refine Ev.neg (by omega) (Ev.some_ ?_)
    rw [List.drop_eq_nil_of_le (by omega)]
    simp
  | succ d ih =>
    intro n c hd hc
    refine Ev.step (fun k => spec_l19Count.l0.eq_2 ..) ?_
    refine Ev.pos (by omega) (Ev.pos (by omega) ?_)
    simp only [w64s (show n < 4611686018427387904 by omega), w64s (show c < 4611686018427387904 by omega), rd_at (show n < l.length by omega)]
    rw [List.drop_eq_getElem_cons (show n < l.length by omega), List.count_cons]
    refine Ev.ite (fun h => Ev.cast (ih (n + 1) (c + 1) (by omega) (by omega)) ?_) (fun h => Ev.cast (ih (n + 1) c (by omega) (by omega)) ?_)
    · simp only [h, beq_self_eq_true, if_true]
      omega
    · simp [h]
theorem l19Count_ev (l : List Int) (x : Int) (hl : l.length ≤ 1099511627776) : Ev (fun k => spec_l19Count.f k l x) (l.count x : Int) := by
  unfold spec_l19Count.f
  exact Ev.cast (l19Count_l0 l x hl l.length 0 0 (by omega) (by omega)) (by simp)
theorem times_l0 (l : List Int) (x : Int) (hl : l.length ≤ 1099511627776) : ∀ (d n c : Nat), n + d = l.length → c ≤ n → Ev (fun k => impl_times.l0 k x (c : Int) l (l.length : Int) (n : Int)) ((c + (l.drop n).count x : Nat) : Int) := by
  intro d
  induction d with
  | zero =>
    intro n c hd hc
    refine Ev.step (fun k => impl_times.l0.eq_2 ..) ?_
    refine Ev.neg (by omega) (Ev.some_ ?_)
    rw [List.drop_eq_nil_of_le (by omega)]
    simp
  | succ d ih =>
    intro n c hd hc
    refine Ev.step (fun k => impl_times.l0.eq_2 ..) ?_
    refine Ev.pos (by omega) (Ev.pos (by omega) (Ev.pos (by omega) ?_))
    simp only [w64s (show n < 4611686018427387904 by omega), w64s (show c < 4611686018427387904 by omega), rd_at (show n < l.length by omega)]
    rw [List.drop_eq_getElem_cons (show n < l.length by omega), List.count_cons]
    refine Ev.ite (fun h => Ev.cast (ih (n + 1) (c + 1) (by omega) (by omega)) ?_) (fun h => Ev.cast (ih (n + 1) c (by omega) (by omega)) ?_)
    · simp only [h, beq_self_eq_true, if_true]
      omega
    · simp [h]
theorem times_ev (l : List Int) (x : Int) (hl : l.length ≤ 1099511627776) : Ev (fun k => impl_times.f k l x) (l.count x : Int) := by
  unfold impl_times.f
  exact Ev.cast (times_l0 l x hl l.length 0 0 (by omega) (by omega)) (by simp)
end Go.Proofs.Ytiimiogpiflkdaa.L
end

section
set_option linter.unusedVariables false
set_option linter.unusedSimpArgs false
namespace Go.Proofs.Ytiimiogpiflkdaa.L
open Go Go.RowKit Go.Proofs.Ytiimiogpiflkdaa.A Go.Proofs.YtiimiogpiflkdaaW.PrintWords
theorem l1In_eq (a b c : Int) : spec_l1In.f a b c = some (inR a b c) := by
  unfold spec_l1In.f inR
  by_cases h : a ≥ b
  · rw [if_pos h]; congr 1; simp; omega
  · rw [if_neg h]; congr 1; simp; omega
end Go.Proofs.Ytiimiogpiflkdaa.L
end

section
set_option linter.unusedVariables false
set_option linter.unusedSimpArgs false
namespace Go.Proofs.Ytiimiogpiflkdaa.L
open Go Go.RowKit Go.Proofs.Ytiimiogpiflkdaa.A Go.Proofs.YtiimiogpiflkdaaW.PrintWords
theorem InRange_eq (a b c : Int) : impl_InRange.f a b c = some (inR a b c) := by
  unfold impl_InRange.f inR
  by_cases h : b ≤ a
  · rw [if_pos h]; congr 1; simp; omega
  · rw [if_neg h]; congr 1; simp; omega
end Go.Proofs.Ytiimiogpiflkdaa.L
end

section
set_option linter.unusedVariables false
set_option linter.unusedSimpArgs false
namespace Go.Proofs.Ytiimiogpiflkdaa.L
open Go Go.RowKit Go.Proofs.Ytiimiogpiflkdaa.A Go.Proofs.YtiimiogpiflkdaaW.PrintWords
abbrev rdT (l : List Tm) (i : Int) : Tm := rd_T61 l i
def rowT (l : List Tm) (n : Int) : Bool :=
  inR (rdT l n).f0 1 99 && inR (rdT l n).f1 1 99 && inR (rdT l n).f2 0 ((rdT l n).f5.length : Int) && inR (rdT l n).f4 0 ((rdT l n).f5.length : Int) && inR (rdT l n).f3 0 100000 && decide (¬ ((rdT l n).f5.length : Int) > 20) && decide (¬ (n > 0 ∧ (rdT l (n - 1)).f0 ≥ (rdT l n).f0))
def metB (l : List Tm) (n : Int) (id : Int) : Bool := decide (0 ≤ findT l id ∧ findT l id ≠ n ∧ (((rdT l (findT l id)).f5.count (rdT l n).f0 : Nat) : Int) = (((rdT l n).f5.count id : Nat) : Int))
def okT (l : List Tm) (n : Int) : Bool := rowT l n && (rdT l n).f5.all (metB l n)
def tlT (l : List Tm) : Nat → Nat → Bool
  | 0, _ => decide (l.length ≤ 10)
  | d + 1, n => okT l n && tlT l d (n + 1)
def areT (l : List Tm) : Bool := tlT l l.length 0
theorem findT_id {l : List Tm} {id : Int} (h : 0 ≤ findT l id) : (rdT l (findT l id)).f0 = id := by
  obtain ⟨hl, hp⟩ := fidx_at (fun t : Tm => decide (t.f0 = id)) l h
  obtain ⟨_, e⟩ := rdTm_int h (findT_range l id).2
  show (rd_T61 l (findT l id)).f0 = id
  rw [e]
  exact of_decide_eq_true hp
theorem sAre_jt (l : List Tm) (n a b c d e : Int) (f : List Int) : Ev (fun k => spec_AreTeams.j1 k l n true a b c d e f) false :=
  Ev.step (fun k => spec_AreTeams.j1.eq_2 ..) (Ev.pos rfl (Ev.now _))
theorem sAre_l1 (l : List Tm) (hs : Small l) (n : Nat) (hn : n < l.length) (r : Bool) (hk : Ev (fun k => spec_AreTeams.l0 k l ((n + 1 : Nat) : Int)) r) : ∀ (d m : Nat), m + d = (rdT l n).f5.length → Ev (fun k => spec_AreTeams.l1 k l (n : Int) (m : Int) (rdT l n).f0 (rdT l n).f1 (rdT l n).f2 (rdT l n).f3 (rdT l n).f4 (rdT l n).f5) ((((rdT l n).f5.drop m).all (metB l n)) && r) := by
  have hlen := hs.1
  have hmet : (rdT l n).f5.length ≤ 1099511627776 := hs.2 _ (rdTm_mem (by omega) (by omega))
  intro d
  induction d with
  | zero =>
    intro m hd
    refine Ev.step (fun k => spec_AreTeams.l1.eq_2 ..) ?_
    refine Ev.neg (by omega) ?_
    simp only [w64s (show n < 4611686018427387904 by omega)]
    rw [List.drop_eq_nil_of_le (by omega)]
    exact Ev.cast hk (by simp)
  | succ d ih =>
    intro m hd
    refine Ev.step (fun k => spec_AreTeams.l1.eq_2 ..) ?_
    refine Ev.pos (by omega) (Ev.pos (by omega) ?_)
    have hm : m < (rdT l n).f5.length := by omega
    simp only [w64s (show m < 4611686018427387904 by omega), rd_at hm]
    rw [List.drop_eq_getElem_cons hm, List.all_cons]
    generalize hid : (rdT l n).f5[m] = id
    have hr := findT_range l id
    refine Ev.bind (sFindTeam_ev l id hs.1) ?_
    refine Ev.ite (fun h => Ev.some_ (by simp only [metB]; rw [decide_eq_false (fun h2 => by omega)]; rfl)) (fun h => ?_)
    refine Ev.ite (fun h1 => Ev.some_ (by simp only [metB]; rw [decide_eq_false (fun h2 => h2.2.1 h1)]; rfl)) (fun h1 => ?_)
    refine Ev.pos (by omega) (Ev.pos hr.2 ?_)
    have hm2 : (rdT l (findT l id)).f5.length ≤ 1099511627776 := hs.2 _ (rdTm_mem (by omega) hr.2)
    refine Ev.bind (l19Count_ev _ _ hm2) (Ev.bind (l19Count_ev _ _ hmet) ?_)
    have hfid : (rd_T61 l (findT l id)).f0 = id := findT_id (by omega)
    simp only [hfid]
    refine Ev.ite (fun h2 => Ev.cast (ih (m + 1) (by omega)) ?_) (fun h2 => Ev.some_ ?_)
    · have : metB l n id = true := by simp only [metB]; exact decide_eq_true ⟨by omega, h1, h2⟩
      rw [this, Bool.true_and]
    · have : metB l n id = false := by simp only [metB]; exact decide_eq_false (fun h3 => h2 h3.2.2)
      rw [this]
      rfl
theorem sAre_jf (l : List Tm) (hs : Small l) (n : Nat) (hn : n < l.length) (r : Bool) (hk : Ev (fun k => spec_AreTeams.l0 k l ((n + 1 : Nat) : Int)) r) : Ev (fun k => spec_AreTeams.j1 k l (n : Int) false (rdT l n).f0 (rdT l n).f1 (rdT l n).f2 (rdT l n).f3 (rdT l n).f4 (rdT l n).f5) ((rdT l n).f5.all (metB l n) && r) :=
  Ev.step (fun k => spec_AreTeams.j1.eq_2 ..) (Ev.neg (by decide) (sAre_l1 l hs n hn r hk (rdT l n).f5.length 0 (by omega)))
theorem sAre_row (l : List Tm) (hs : Small l) (n : Nat) (hn : n < l.length) (r : Bool) (hk : Ev (fun k => spec_AreTeams.l0 k l ((n + 1 : Nat) : Int)) r) : Ev (fun k => spec_AreTeams.l0 k l (n : Int)) (okT l n && r) := by
  have hlen := hs.1
  have J := sAre_jf l hs n hn r hk
  refine Ev.step (fun k => spec_AreTeams.l0.eq_2 ..) (Ev.pos (by omega) (Ev.pos (by omega) ?_))
  refine Ev.bnd (l1In_eq _ _ _) ?_
  by_cases h1 : inR (rdT l n).f0 1 99 = true
  rotate_left
  · exact Ev.cast (Ev.neg h1 (sAre_jt ..)) (by simp [okT, rowT, h1])
  refine Ev.pos h1 (Ev.bnd (l1In_eq _ _ _) ?_)
  by_cases h2 : inR (rdT l n).f1 1 99 = true
  rotate_left
  · exact Ev.cast (Ev.neg h2 (sAre_jt ..)) (by simp [okT, rowT, h2])
  refine Ev.pos h2 (Ev.bnd (l1In_eq _ _ _) ?_)
  by_cases h3 : inR (rdT l n).f2 0 ((rdT l n).f5.length : Int) = true
  rotate_left
  · exact Ev.cast (Ev.neg h3 (sAre_jt ..)) (by simp [okT, rowT, h3])
  refine Ev.pos h3 (Ev.bnd (l1In_eq _ _ _) ?_)
  by_cases h4 : inR (rdT l n).f4 0 ((rdT l n).f5.length : Int) = true
  rotate_left
  · exact Ev.cast (Ev.neg h4 (sAre_jt ..)) (by simp [okT, rowT, h4])
  refine Ev.pos h4 (Ev.bnd (l1In_eq _ _ _) ?_)
  by_cases h5 : inR (rdT l n).f3 0 100000 = true
  rotate_left
  · exact Ev.cast (Ev.neg h5 (sAre_jt ..)) (by simp [okT, rowT, h5])
  refine Ev.pos h5 ?_
  by_cases h6 : ((rdT l n).f5.length : Int) > 20
  · refine Ev.cast (Ev.pos h6 (sAre_jt ..)) ?_
    have : decide (¬ ((rdT l n).f5.length : Int) > 20) = false := decide_eq_false (fun h => h h6)
    simp only [okT, rowT, this, Bool.and_false, Bool.false_and]
  refine Ev.neg h6 ?_
  have d6 : decide (¬ ((rdT l n).f5.length : Int) > 20) = true := decide_eq_true h6
  by_cases h7 : (n : Int) > 0
  · refine Ev.pos h7 ?_
    simp only [w64 (show -9223372036854775808 ≤ (n : Int) - 1 by omega) (show (n : Int) - 1 ≤ 9223372036854775807 by omega)]
    refine Ev.pos (by omega) (Ev.pos (by omega) ?_)
    by_cases h8 : (rdT l ((n : Int) - 1)).f0 ≥ (rdT l n).f0
    · have e8 : decide ((rd_T61 l ((n : Int) - 1)).f0 ≥ (rd_T61 l n).f0) = true := decide_eq_true h8
      simp only [e8]
      refine Ev.cast (sAre_jt ..) ?_
      have : decide (¬ ((n : Int) > 0 ∧ (rdT l ((n : Int) - 1)).f0 ≥ (rdT l n).f0)) = false := decide_eq_false (fun h => h ⟨h7, h8⟩)
      simp only [okT, rowT, this, Bool.and_false, Bool.false_and]
    · have e8 : decide ((rd_T61 l ((n : Int) - 1)).f0 ≥ (rd_T61 l n).f0) = false := decide_eq_false h8
      simp only [e8]
      refine Ev.cast J ?_
      have : decide (¬ ((n : Int) > 0 ∧ (rdT l ((n : Int) - 1)).f0 ≥ (rdT l n).f0)) = true := decide_eq_true (fun h => h8 h.2)
      simp only [okT, rowT, this, d6, h1, h2, h3, h4, h5, Bool.and_true, Bool.true_and]
  · refine Ev.cast (Ev.neg h7 J) ?_
    have : decide (¬ ((n : Int) > 0 ∧ (rdT l ((n : Int) - 1)).f0 ≥ (rdT l n).f0)) = true := decide_eq_true (fun h => h7 h.1)
    simp only [okT, rowT, this, d6, h1, h2, h3, h4, h5, Bool.and_true, Bool.true_and]
theorem sAre_l0 (l : List Tm) (hs : Small l) : ∀ (d n : Nat), n + d = l.length → Ev (fun k => spec_AreTeams.l0 k l (n : Int)) (tlT l d n) := by
  intro d
  induction d with
  | zero =>
    intro n hd
    refine Ev.step (fun k => spec_AreTeams.l0.eq_2 ..) (Ev.neg (by omega) (Ev.some_ ?_))
    simp only [tlT]
    congr 1
    simp only [eq_iff_iff]
    omega
  | succ d ih =>
    intro n hd
    exact sAre_row l hs n (by omega) _ (ih (n + 1) (by omega))
theorem sAreTeams_ev (l : List Tm) (hs : Small l) : Ev (fun k => spec_AreTeams.f k l) (areT l) := by
  unfold spec_AreTeams.f
  exact sAre_l0 l hs l.length 0 (by omega)
def ascT (l : List Tm) (n : Nat) : Prop := ∀ i : Nat, i < n → (rdT l i).f0 < (rdT l (i + 1 : Nat)).f0
theorem ascT_lt {l : List Tm} {n : Nat} (h : ascT l n) : ∀ (j i : Nat), i < j → j ≤ n → (rdT l i).f0 < (rdT l j).f0 := by
  intro j
  induction j with
  | zero => intro i hi; omega
  | succ j ih =>
    intro i hi hj
    have h1 := h j (by omega)
    by_cases e : i = j
    · subst e
      exact h1
    · have := ih i (by omega) (by omega)
      omega
theorem findT_self {l : List Tm} {n : Nat} (h : ascT l n) (hn : n < l.length) : findT l (rdT l n).f0 = n := by
  have e : l.findIdx? (fun t : Tm => decide (t.f0 = (rdT l n).f0)) = some n := by
    rw [List.findIdx?_eq_some_iff_getElem]
    refine ⟨hn, by simp [rdT, rdTm hn], fun j hj => ?_⟩
    have := ascT_lt h n j hj (Nat.le_refl _)
    rw [rdT, rdTm (show j < l.length by omega)] at this
    simp only [decide_eq_true_eq]
    omega
  unfold findT fidx
  rw [e]
theorem iAre_jt (l x : List Tm) (p n a b c d e : Int) (f : List Int) : Ev (fun k => impl_AreTeams.j1 k l x p n true a b c d e f) false :=
  Ev.step (fun k => impl_AreTeams.j1.eq_2 ..) (Ev.pos rfl (Ev.now _))
theorem iAre_l1 (l : List Tm) (hs : Small l) (n : Nat) (hn : n < l.length) (ha : ascT l n) (r : Bool) (hk : Ev (fun k => impl_AreTeams.l0 k l l (l.length : Int) ((n + 1 : Nat) : Int)) r) : ∀ (d m : Nat), m + d = (rdT l n).f5.length → Ev (fun k => impl_AreTeams.l1 k l l (l.length : Int) (n : Int) (rdT l n).f5 ((rdT l n).f5.length : Int) (m : Int) (rdT l n).f0 (rdT l n).f1 (rdT l n).f2 (rdT l n).f3 (rdT l n).f4 (rdT l n).f5) ((((rdT l n).f5.drop m).all (metB l n)) && r) := by
  have hlen := hs.1
  have hmet : (rdT l n).f5.length ≤ 1099511627776 := hs.2 _ (rdTm_mem (by omega) (by omega))
  intro d
  induction d with
  | zero =>
    intro m hd
    refine Ev.step (fun k => impl_AreTeams.l1.eq_2 ..) ?_
    refine Ev.neg (by omega) ?_
    simp only [w64s (show n < 4611686018427387904 by omega)]
    rw [List.drop_eq_nil_of_le (by omega)]
    exact Ev.cast hk (by simp)
  | succ d ih =>
    intro m hd
    refine Ev.step (fun k => impl_AreTeams.l1.eq_2 ..) ?_
    refine Ev.pos (by omega) (Ev.pos (by omega) (Ev.pos (by omega) ?_))
    have hm : m < (rdT l n).f5.length := by omega
    simp only [w64s (show m < 4611686018427387904 by omega), rd_at hm]
    rw [List.drop_eq_getElem_cons hm, List.all_cons]
    generalize hid : (rdT l n).f5[m] = id
    have hr := findT_range l id
    have hself := findT_self ha hn
    refine Ev.bnd (iFindTeam_eq l id) ?_
    refine Ev.ite (fun h => Ev.some_ (by simp only [metB]; rw [decide_eq_false (fun h2 => by omega)]; rfl)) (fun h => ?_)
    refine Ev.ite (fun h1 => Ev.some_ (by simp only [metB]; rw [decide_eq_false (fun h2 => h2.2.1 (by rw [h1]; exact hself))]; rfl)) (fun h1 => ?_)
    have hfid : (rd_T61 l (findT l id)).f0 = id := findT_id (by omega)
    have h1' : findT l id ≠ n := fun e => h1 (by rw [← hfid, e])
    refine Ev.bind (times_ev _ _ hmet) (Ev.pos (by omega) (Ev.pos hr.2 ?_))
    have hm2 : (rdT l (findT l id)).f5.length ≤ 1099511627776 := hs.2 _ (rdTm_mem (by omega) hr.2)
    refine Ev.bind (times_ev _ _ hm2) ?_
    refine Ev.ite (fun h2 => Ev.cast (ih (m + 1) (by omega)) ?_) (fun h2 => Ev.some_ ?_)
    · have : metB l n id = true := by simp only [metB]; exact decide_eq_true ⟨by omega, h1', h2.symm⟩
      rw [this, Bool.true_and]
    · have : metB l n id = false := by simp only [metB]; exact decide_eq_false (fun h3 => h2 h3.2.2.symm)
      rw [this]
      rfl
theorem iAre_jf (l : List Tm) (hs : Small l) (n : Nat) (hn : n < l.length) (ha : ascT l n) (r : Bool) (hk : Ev (fun k => impl_AreTeams.l0 k l l (l.length : Int) ((n + 1 : Nat) : Int)) r) : Ev (fun k => impl_AreTeams.j1 k l l (l.length : Int) (n : Int) false (rdT l n).f0 (rdT l n).f1 (rdT l n).f2 (rdT l n).f3 (rdT l n).f4 (rdT l n).f5) ((rdT l n).f5.all (metB l n) && r) :=
  Ev.step (fun k => impl_AreTeams.j1.eq_2 ..) (Ev.neg (by decide) (iAre_l1 l hs n hn ha r hk (rdT l n).f5.length 0 (by omega)))
theorem iAre_rest (l : List Tm) (hs : Small l) (n : Nat) (hn : n < l.length) (ha : ascT l n) (r : Bool) (hk : Ev (fun k => impl_AreTeams.l0 k l l (l.length : Int) ((n + 1 : Nat) : Int)) r)
    (h1 : inR (rdT l n).f0 1 99 = true) (h7 : decide (¬ ((n : Int) > 0 ∧ (rdT l ((n : Int) - 1)).f0 ≥ (rdT l n).f0)) = true) : Ev (fun k => (impl_InRange.f (rdT l n).f1 1 99).bind fun t171 => (if t171 = true then (if ((rdT l n).f5.length : Int) > 20 then (impl_AreTeams.j1 k l l (l.length : Int) n true (rdT l n).f0 (rdT l n).f1 (rdT l n).f2 (rdT l n).f3 (rdT l n).f4 (rdT l n).f5) else ((impl_InRange.f (rdT l n).f2 0 ((rdT l n).f5.length : Int)).bind fun t172 => (if t172 = true then ((impl_InRange.f (rdT l n).f4 0 ((rdT l n).f5.length : Int)).bind fun t173 => (if t173 = true then ((impl_InRange.f (rdT l n).f3 0 100000).bind fun t174 => (impl_AreTeams.j1 k l l (l.length : Int) n (!t174) (rdT l n).f0 (rdT l n).f1 (rdT l n).f2 (rdT l n).f3 (rdT l n).f4 (rdT l n).f5)) else (impl_AreTeams.j1 k l l (l.length : Int) n true (rdT l n).f0 (rdT l n).f1 (rdT l n).f2 (rdT l n).f3 (rdT l n).f4 (rdT l n).f5))) else (impl_AreTeams.j1 k l l (l.length : Int) n true (rdT l n).f0 (rdT l n).f1 (rdT l n).f2 (rdT l n).f3 (rdT l n).f4 (rdT l n).f5)))) else (impl_AreTeams.j1 k l l (l.length : Int) n true (rdT l n).f0 (rdT l n).f1 (rdT l n).f2 (rdT l n).f3 (rdT l n).f4 (rdT l n).f5))) (okT l n && r) := by
  have J := iAre_jf l hs n hn ha r hk
  refine Ev.bnd (InRange_eq _ _ _) ?_
  by_cases h2 : inR (rdT l n).f1 1 99 = true
  rotate_left
  · exact Ev.cast (Ev.neg h2 (iAre_jt ..)) (by simp [okT, rowT, h2])
  refine Ev.pos h2 ?_
  by_cases h6 : ((rdT l n).f5.length : Int) > 20
  · refine Ev.cast (Ev.pos h6 (iAre_jt ..)) ?_
    have : decide (¬ ((rdT l n).f5.length : Int) > 20) = false := decide_eq_false (fun h => h h6)
    simp only [okT, rowT, this, Bool.and_false, Bool.false_and]
  have d6 : decide (¬ ((rdT l n).f5.length : Int) > 20) = true := decide_eq_true h6
  refine Ev.neg h6 (Ev.bnd (InRange_eq _ _ _) ?_)
  by_cases h3 : inR (rdT l n).f2 0 ((rdT l n).f5.length : Int) = true
  rotate_left
  · exact Ev.cast (Ev.neg h3 (iAre_jt ..)) (by simp [okT, rowT, h3])
  refine Ev.pos h3 (Ev.bnd (InRange_eq _ _ _) ?_)
  by_cases h4 : inR (rdT l n).f4 0 ((rdT l n).f5.length : Int) = true
  rotate_left
  · exact Ev.cast (Ev.neg h4 (iAre_jt ..)) (by simp [okT, rowT, h4])
  refine Ev.pos h4 (Ev.bnd (InRange_eq _ _ _) ?_)
  by_cases h5 : inR (rdT l n).f3 0 100000 = true
  · simp only [h5, Bool.not_true]
    refine Ev.cast J ?_
    simp only [okT, rowT, h7, d6, h1, h2, h3, h4, h5, Bool.and_true, Bool.true_and]
  · rw [Bool.not_eq_true] at h5
    simp only [h5, Bool.not_false]
    exact Ev.cast (iAre_jt ..) (by simp [okT, rowT, h5])
theorem iAre_row (l : List Tm) (hs : Small l) (n : Nat) (hn : n < l.length) (ha : ascT l (n - 1)) (r : Bool) (hk : ascT l n → Ev (fun k => impl_AreTeams.l0 k l l (l.length : Int) ((n + 1 : Nat) : Int)) r) : Ev (fun k => impl_AreTeams.l0 k l l (l.length : Int) (n : Int)) (okT l n && r) := by
  have hlen := hs.1
  refine Ev.step (fun k => impl_AreTeams.l0.eq_2 ..) (Ev.pos (by omega) (Ev.pos (by omega) (Ev.pos (by omega) ?_)))
  refine Ev.bnd (InRange_eq _ _ _) ?_
  by_cases h1 : inR (rdT l n).f0 1 99 = true
  rotate_left
  · exact Ev.cast (Ev.neg h1 (iAre_jt ..)) (by simp [okT, rowT, h1])
  refine Ev.pos h1 ?_
  by_cases h7 : (n : Int) > 0
  · refine Ev.pos h7 ?_
    simp only [w64 (show -9223372036854775808 ≤ (n : Int) - 1 by omega) (show (n : Int) - 1 ≤ 9223372036854775807 by omega)]
    refine Ev.pos (by omega) (Ev.pos (by omega) ?_)
    by_cases h8 : (rdT l n).f0 ≤ (rdT l ((n : Int) - 1)).f0
    · refine Ev.cast (Ev.pos h8 (iAre_jt ..)) ?_
      have : decide (¬ ((n : Int) > 0 ∧ (rdT l ((n : Int) - 1)).f0 ≥ (rdT l n).f0)) = false := decide_eq_false (fun h => h ⟨h7, h8⟩)
      simp only [okT, rowT, this, Bool.and_false, Bool.false_and]
    · have ha' : ascT l n := by
        intro i hi
        by_cases e : i = n - 1
        · subst e
          have e1 : ((n - 1 : Nat) : Int) = (n : Int) - 1 := by omega
          have e2 : n - 1 + 1 = n := by omega
          rw [e1, e2]
          omega
        · exact ha i (by omega)
      exact Ev.neg h8 (iAre_rest l hs n hn ha' r (hk ha') h1 (decide_eq_true (fun h => h8 h.2)))
  · have ha' : ascT l n := fun i hi => by omega
    exact Ev.neg h7 (iAre_rest l hs n hn ha' r (hk ha') h1 (decide_eq_true (fun h => h7 h.1)))
theorem iAre_l0 (l : List Tm) (hs : Small l) (h10 : l.length ≤ 10) : ∀ (d n : Nat), n + d = l.length → ascT l (n - 1) → Ev (fun k => impl_AreTeams.l0 k l l (l.length : Int) (n : Int)) (tlT l d n) := by
  intro d
  induction d with
  | zero =>
    intro n hd ha
    refine Ev.step (fun k => impl_AreTeams.l0.eq_2 ..) (Ev.neg (by omega) (Ev.some_ ?_))
    simp only [tlT]
    exact (decide_eq_true h10).symm
  | succ d ih =>
    intro n hd ha
    exact iAre_row l hs n (by omega) ha _ (fun ha' => ih (n + 1) (by omega) (by simpa using ha'))
theorem tlT_big (l : List Tm) (h : ¬ l.length ≤ 10) : ∀ (d n : Nat), tlT l d n = false
  | 0, _ => decide_eq_false h
  | d + 1, n => by simp only [tlT, tlT_big l h d (n + 1), Bool.and_false]
theorem iAreTeams_ev (l : List Tm) (hs : Small l) : Ev (fun k => impl_AreTeams.f k l) (areT l) := by
  unfold impl_AreTeams.f
  refine Ev.ite (fun h => Ev.some_ (tlT_big l (by omega) _ _).symm) (fun h => ?_)
  exact iAre_l0 l hs (by omega) l.length 0 (by omega) (fun i hi => by omega)
end Go.Proofs.Ytiimiogpiflkdaa.L
end

section
set_option linter.unusedVariables false
set_option linter.unusedSimpArgs false
namespace Go.Proofs.Ytiimiogpiflkdaa.L
open Go Go.RowKit Go.Proofs.Ytiimiogpiflkdaa.A Go.Proofs.YtiimiogpiflkdaaW.PrintWords
theorem Index_l0 (l : List Int) (x : Int) (hl : l.length ≤ 1099511627776) : ∀ (d n : Nat), n + d = l.length → Ev (fun k => slices_Index_int_int.l0 k l x (l.length : Int) (n : Int)) (if x ∈ l.drop n then ((n + (l.drop n).idxOf x : Nat) : Int) else -1) := by
  intro d
  induction d with
  | zero =>
    intro n hd
    refine Ev.step (fun k => slices_Index_int_int.l0.eq_2 ..) ?_
    refine Ev.neg (by omega) (Ev.some_ ?_)
    rw [List.drop_eq_nil_of_le (by omega)]
    simp
  | succ d ih =>
    intro n hd
    refine Ev.step (fun k => slices_Index_int_int.l0.eq_2 ..) ?_
    refine Ev.pos (by omega) (Ev.pos (by omega) (Ev.pos (by omega) ?_))
    simp only [w64s (show n < 4611686018427387904 by omega), rd_at (show n < l.length by omega)]
    have h1 := ih (n + 1) (by omega)
    rw [List.drop_eq_getElem_cons (show n < l.length by omega)]
    generalize l.drop (n + 1) = u at h1 ⊢
    refine Ev.ite (fun h => Ev.some_ ?_) (fun h => Ev.cast h1 ?_)
    · simp [h]
    · have h' : ¬ l[n] = x := fun e => h e.symm
      simp only [List.mem_cons, h, false_or, List.idxOf_cons, beq_eq_false_iff_ne.2 h']
      split
      · simp; omega
      · rfl
def idx (l : List Int) (x : Int) : Int := if x ∈ l then (l.idxOf x : Int) else -1
theorem Index_ev (l : List Int) (x : Int) (hl : l.length ≤ 1099511627776) : Ev (fun k => slices_Index_int_int.f k l x) (idx l x) := by
  unfold slices_Index_int_int.f
  refine Ev.cast (Index_l0 l x hl l.length 0 (by omega)) ?_
  simp [idx]
theorem Contains_ev (l : List Int) (x : Int) (hl : l.length ≤ 1099511627776) : Ev (fun k => slices_Contains_int_int.f k l x) (decide (x ∈ l)) := by
  unfold slices_Contains_int_int.f
  refine Ev.bind (Index_ev l x hl) (Ev.some_ ?_)
  unfold idx
  by_cases h : x ∈ l
  · simp [h]
  · simp [h]
end Go.Proofs.Ytiimiogpiflkdaa.L
end

section
set_option linter.unusedVariables false
set_option linter.unusedSimpArgs false
namespace Go.Proofs.Ytiimiogpiflkdaa.L
open Go Go.RowKit Go.Proofs.Ytiimiogpiflkdaa.A Go.Proofs.YtiimiogpiflkdaaW.PrintWords
theorem l4Has_l0 (l : List Int) (x : Int) (hl : l.length ≤ 1099511627776) : ∀ (d n : Nat), n + d = l.length → Ev (fun k => spec_l4Has.l0 k l x (n : Int)) (decide (x ∈ l.drop n)) := by
  intro d
  induction d with
  | zero =>
    intro n hd
    refine Ev.step (fun k => spec_l4Has.l0.eq_2 ..) ?_
    refine Ev.neg (by omega) (Ev.some_ ?_)
    rw [List.drop_eq_nil_of_le (by omega)]
    simp
  | succ d ih =>
    intro n hd
    refine Ev.step (fun k => spec_l4Has.l0.eq_2 ..) ?_
    refine Ev.pos (by omega) (Ev.pos (by omega) ?_)
    simp only [w64s (show n < 4611686018427387904 by omega), rd_at (show n < l.length by omega)]
    have h1 := ih (n + 1) (by omega)
    rw [List.drop_eq_getElem_cons (show n < l.length by omega)]
    generalize l.drop (n + 1) = u at h1 ⊢
    refine Ev.ite (fun h => Ev.some_ ?_) (fun h => Ev.cast h1 ?_)
    · simp [h]
    · have h' : ¬ x = l[n] := fun e => h e.symm
      simp [h']
theorem l4Has_ev (l : List Int) (x : Int) (hl : l.length ≤ 1099511627776) : Ev (fun k => spec_l4Has.f k l x) (decide (x ∈ l)) := by
  unfold spec_l4Has.f
  exact Ev.cast (l4Has_l0 l x hl l.length 0 (by omega)) (by simp)
end Go.Proofs.Ytiimiogpiflkdaa.L
end

section
set_option linter.unusedVariables false
set_option linter.unusedSimpArgs false
namespace Go.Proofs.Ytiimiogpiflkdaa.L
open Go Go.RowKit Go.Proofs.Ytiimiogpiflkdaa.A Go.Proofs.YtiimiogpiflkdaaW.PrintWords
def metT (l : List Tm) (a b : Int) : Bool := decide (0 ≤ findT l a ∧ b ∈ (rd_T61 l (findT l a)).f5)
theorem sHaveMet_ev (l : List Tm) (a b : Int) (hs : Small l) : Ev (fun k => spec_HaveMet.f k l a b) (metT l a b) := by
  unfold spec_HaveMet.f metT
  have hr := findT_range l a
  refine Ev.bind (sFindTeam_ev l a hs.1) (Ev.ite (fun h => Ev.pos (by omega) (Ev.pos hr.2 (Ev.bind (l4Has_ev _ b (hs.2 _ (rdTm_mem (by omega) hr.2))) (Ev.some_ ?_)))) (fun h => Ev.some_ ?_))
  · have : 0 ≤ findT l a := by omega
    simp [this]
  · have : ¬ 0 ≤ findT l a := by omega
    simp [this]
theorem iHaveMet_ev (l : List Tm) (a b : Int) (hs : Small l) : Ev (fun k => impl_HaveMet.f k l a b) (metT l a b) := by
  unfold impl_HaveMet.f metT
  have hr := findT_range l a
  refine Ev.bnd (iFindTeam_eq l a) (Ev.ite (fun h => Ev.pos (by omega) (Ev.pos hr.2 (Ev.bind (Contains_ev _ b (hs.2 _ (rdTm_mem (by omega) hr.2))) (Ev.some_ ?_)))) (fun h => Ev.some_ ?_))
  · have : 0 ≤ findT l a := by omega
    simp [this]
  · have : ¬ 0 ≤ findT l a := by omega
    simp [this]
end Go.Proofs.Ytiimiogpiflkdaa.L
end

section
set_option linter.unusedVariables false
set_option linter.unusedSimpArgs false
namespace Go.Proofs.Ytiimiogpiflkdaa.L
open Go Go.RowKit Go.Proofs.Ytiimiogpiflkdaa.A Go.Proofs.YtiimiogpiflkdaaW.PrintWords
def mayT (l : List Tm) (a b : Int) : Bool :=
  areT l && decide (0 ≤ findT l a) && decide (0 ≤ findT l b) && decide (findT l a ≠ findT l b) && decide ((rdT l (findT l a)).f1 ≠ (rdT l (findT l b)).f1) && !metT l a b
theorem mayT_iff {l : List Tm} {a b : Int} : mayT l a b = true ↔ areT l = true ∧ 0 ≤ findT l a ∧ 0 ≤ findT l b ∧ findT l a ≠ findT l b ∧ (rdT l (findT l a)).f1 ≠ (rdT l (findT l b)).f1 ∧ metT l a b = false := by
  simp only [mayT, Bool.and_eq_true, decide_eq_true_eq, Bool.not_eq_true', and_assoc]
theorem mayT_neg {l : List Tm} {a b : Int} (h : ¬ (areT l = true ∧ 0 ≤ findT l a ∧ 0 ≤ findT l b ∧ findT l a ≠ findT l b ∧ (rdT l (findT l a)).f1 ≠ (rdT l (findT l b)).f1 ∧ metT l a b = false)) : false = mayT l a b := by
  rw [← mayT_iff, Bool.not_eq_true] at h
  exact h.symm
theorem sMayMeet_ev (l : List Tm) (a b : Int) (hs : Small l) : Ev (fun k => spec_MayMeet.f k l a b) (mayT l a b) := by
  unfold spec_MayMeet.f
  have ha := findT_range l a
  have hb := findT_range l b
  refine Ev.bind (sFindTeam_ev l a hs.1) (Ev.bind (sFindTeam_ev l b hs.1) (Ev.bind (sAreTeams_ev l hs) ?_))
  refine Ev.ite (fun h1 => ?_) (fun h1 => Ev.some_ (mayT_neg (fun h => h1 h.1)))
  refine Ev.ite (fun h2 => ?_) (fun h2 => Ev.some_ (mayT_neg (fun h => h2 h.2.1)))
  refine Ev.ite (fun h3 => ?_) (fun h3 => Ev.some_ (mayT_neg (fun h => h3 h.2.2.1)))
  refine Ev.ite (fun h4 => Ev.some_ (mayT_neg (fun h => h.2.2.2.1 h4))) (fun h4 => ?_)
  refine Ev.pos (by omega) (Ev.pos ha.2 (Ev.pos (by omega) (Ev.pos hb.2 ?_)))
  refine Ev.ite (fun h5 => Ev.some_ (mayT_neg (fun h => h.2.2.2.2.1 h5))) (fun h5 => ?_)
  refine Ev.bind (sHaveMet_ev l a b hs) (Ev.some_ ?_)
  cases h6 : metT l a b
  · exact (mayT_iff.2 ⟨h1, h2, h3, h4, h5, h6⟩).symm
  · exact mayT_neg (fun h => by simp [h6] at h)
theorem iMayMeet_ev (l : List Tm) (a b : Int) (hs : Small l) : Ev (fun k => impl_MayMeet.f k l a b) (mayT l a b) := by
  unfold impl_MayMeet.f
  have ha := findT_range l a
  have hb := findT_range l b
  refine Ev.bnd (iFindTeam_eq l a) (Ev.bnd (iFindTeam_eq l b) (Ev.bind (iAreTeams_ev l hs) ?_))
  refine Ev.ite (fun h1 => ?_) (fun h1 => Ev.some_ (mayT_neg (fun h => h1 h.1)))
  refine Ev.ite (fun h2 => ?_) (fun h2 => Ev.some_ (mayT_neg (fun h => h2 h.2.1)))
  refine Ev.ite (fun h3 => ?_) (fun h3 => Ev.some_ (mayT_neg (fun h => h3 h.2.2.1)))
  refine Ev.ite (fun h4 => Ev.some_ (mayT_neg (fun h => h.2.2.2.1 h4))) (fun h4 => ?_)
  refine Ev.pos (by omega) (Ev.pos ha.2 (Ev.pos (by omega) (Ev.pos hb.2 ?_)))
  refine Ev.ite (fun h5 => Ev.some_ (mayT_neg (fun h => h.2.2.2.2.1 h5))) (fun h5 => ?_)
  refine Ev.bind (iHaveMet_ev l a b hs) (Ev.some_ ?_)
  cases h6 : metT l a b
  · exact (mayT_iff.2 ⟨h1, h2, h3, h4, h5, h6⟩).symm
  · exact mayT_neg (fun h => by simp [h6] at h)
end Go.Proofs.Ytiimiogpiflkdaa.L
end

section
set_option linter.unusedVariables false
set_option linter.unusedSimpArgs false
namespace Go.Proofs.Ytiimiogpiflkdaa.L
open Go Go.RowKit Go.Proofs.Ytiimiogpiflkdaa.A Go.Proofs.YtiimiogpiflkdaaW.PrintWords
theorem rdLPair {l : List S73} {n : Nat} (h : n < l.length) : rd_T73 l (n : Int) = l[n] := by
  simp [rd_T73, h]
theorem rdPair {l : List S46} {n : Nat} (h : n < l.length) : rd_T46 l (n : Int) = l[n] := by
  simp [rd_T46, h]
def cvPair (x : S73) : S46 := ⟨x.f0, x.f1⟩
theorem toPairS_l0 (l : List S73) (hl : l.length ≤ 1099511627776) : ∀ (d n : Nat) (xs : List S46), n + d = l.length → xs.length = l.length → xs.take n = (l.map cvPair).take n → Ev (fun k => laws_toPairS.l0 k l xs (n : Int)) (l.map cvPair) := by
  intro d
  induction d with
  | zero =>
    intro n xs hd hx ht
    refine Ev.step (fun k => laws_toPairS.l0.eq_2 ..) ?_
    refine Ev.neg (by omega) (Ev.some_ ?_)
    rw [List.take_of_length_le (by omega), List.take_of_length_le (by simp; omega)] at ht
    exact ht
  | succ d ih =>
    intro n xs hd hx ht
    refine Ev.step (fun k => laws_toPairS.l0.eq_2 ..) ?_
    refine Ev.pos (by omega) (Ev.pos (by omega) ?_)
    simp only [laws_toPair.f, Option.bind_some]
    refine Ev.pos (by omega) ?_
    simp only [w64s (show n < 4611686018427387904 by omega), rdLPair (show n < l.length by omega), Int.toNat_natCast]
    refine ih (n + 1) _ (by omega) (by simp [hx]) ?_
    rw [List.take_succ_eq_append_getElem (by simp; omega), List.take_succ_eq_append_getElem (by simp; omega), List.take_set_of_le (by omega), ht]
    simp [cvPair]
theorem toPairS_ev (l : List S73) (hl : l.length ≤ 1099511627776) : Ev (fun k => laws_toPairS.f k l) (l.map cvPair) := by
  unfold laws_toPairS.f
  refine Ev.pos (by omega) (Ev.pos (by simp; omega) ?_)
  exact toPairS_l0 l hl l.length 0 _ (by omega) (by simp) (by simp)
theorem eqPair_same (x : S46) : laws_eqPair.f x.f0 x.f1 x.f0 x.f1 = some true := by simp [laws_eqPair.f]
theorem eqPairS_l0 (l : List S46) (hl : l.length ≤ 1099511627776) : ∀ (d n : Nat), n + d = l.length → Ev (fun k => laws_eqPairS.l0 k l l (n : Int)) true := by
  intro d
  induction d with
  | zero =>
    intro n hd
    refine Ev.step (fun k => laws_eqPairS.l0.eq_2 ..) ?_
    exact Ev.neg (by omega) (Ev.now _)
  | succ d ih =>
    intro n hd
    refine Ev.step (fun k => laws_eqPairS.l0.eq_2 ..) ?_
    refine Ev.pos (by omega) (Ev.pos (by omega) (Ev.pos (by omega) ?_))
    simp only [w64s (show n < 4611686018427387904 by omega), rdPair (show n < l.length by omega), eqPair_same, Option.bind_some]
    exact Ev.pos trivial (ih (n + 1) (by omega))
theorem eqPairS_ev (l : List S46) (hl : l.length ≤ 1099511627776) : Ev (fun k => laws_eqPairS.f k l l) true := by
  unfold laws_eqPairS.f
  exact Ev.pos rfl (eqPairS_l0 l hl l.length 0 (by omega))
theorem szPairS_eq (l : List S73) (left : Int) (h0 : 0 ≤ left) (h1 : left ≤ 1048576) (hl : l.length ≤ 9223372036854775807) : laws_szPairS.f l left = some (if left - l.length < 0 then -1 else left - l.length) := by
  unfold laws_szPairS.f
  rw [w64 (by omega) (by omega)]
  split <;> rfl
end Go.Proofs.Ytiimiogpiflkdaa.L
end

section
set_option linter.unusedVariables false
set_option linter.unusedSimpArgs false
namespace Go.Proofs.Ytiimiogpiflkdaa.L
open Go
theorem perm_of_sub : ∀ (r l : List Int), r.Nodup → (∀ x ∈ r, x ∈ l) → l.length ≤ r.length → r.Perm l
  | [], l, _, _, h => by
    obtain rfl : l = [] := List.eq_nil_of_length_eq_zero (by simpa using h)
    exact List.Perm.refl _
  | x :: r, l, hn, hs, h => by
    have hx : x ∈ l := hs x (by simp)
    have hp := List.perm_cons_erase hx
    have hn' := List.nodup_cons.1 hn
    have h1 : (l.erase x).length = l.length - 1 := List.length_erase_of_mem hx
    refine (List.Perm.cons x (perm_of_sub r (l.erase x) hn'.2 (fun y hy => ?_) ?_)).trans hp.symm
    · have : y ≠ x := fun e => hn'.1 (e ▸ hy)
      exact (List.mem_erase_of_ne this).2 (hs y (by simp [hy]))
    · simp only [List.length_cons] at h
      omega
end Go.Proofs.Ytiimiogpiflkdaa.L
end

section
set_option linter.unusedVariables false
set_option linter.unusedSimpArgs false
namespace Go.Proofs.Ytiimiogpiflkdaa.L
open Go Go.RowKit Go.Proofs.Ytiimiogpiflkdaa.A Go.Proofs.YtiimiogpiflkdaaW.PrintWords
abbrev Pr := S46
def sides : List Pr → List Int
  | [] => []
  | p :: r => p.f0 :: p.f1 :: sides r
theorem sides_length : ∀ r : List Pr, (sides r).length = 2 * r.length
  | [] => rfl
  | p :: r => by simp only [sides, List.length_cons, sides_length r]; omega
theorem sides_append : ∀ (a b : List Pr), sides (a ++ b) = sides a ++ sides b
  | [], b => rfl
  | p :: a, b => by simp only [List.cons_append, sides, sides_append a b]
theorem sides_take (r : List Pr) (n : Nat) (h : n < r.length) : sides (r.take (n + 1)) = sides (r.take n) ++ [r[n].f0, r[n].f1] := by
  rw [List.take_succ_eq_append_getElem h, sides_append]
  rfl
def fresh (l : List Tm) (r : List Pr) : List Int → Bool
  | seen => match r with
    | [] => true
    | p :: r => mayT l p.f0 p.f1 && !decide (p.f0 ∈ seen) && !decide (p.f1 ∈ seen) && fresh l r (seen ++ [p.f0, p.f1])
theorem fresh_iff (l : List Tm) : ∀ (r : List Pr) (seen : List Int), fresh l r seen = true ↔ (∀ p ∈ r, mayT l p.f0 p.f1 = true) ∧ (sides r).Nodup ∧ ∀ x ∈ sides r, x ∉ seen
  | [], seen => by simp [fresh, sides]
  | p :: r, seen => by
    rw [fresh]
    simp only [Bool.and_eq_true, Bool.not_eq_true', decide_eq_false_iff_not, fresh_iff l r, sides, List.nodup_cons, List.mem_cons, List.mem_append, List.not_mem_nil, or_false, forall_eq_or_imp, not_or]
    constructor
    · rintro ⟨⟨⟨h1, h2⟩, h3⟩, h4, h5, h6⟩
      have hm := (mayT_iff.1 h1).2.2.2.1
      refine ⟨⟨h1, h4⟩, ⟨⟨fun e => hm (by rw [e]), fun hx => (h6 _ hx).2.1 rfl⟩, fun hx => (h6 _ hx).2.2 rfl, h5⟩, h2, h3, fun x hx => (h6 x hx).1⟩
    · rintro ⟨⟨h1, h4⟩, ⟨⟨h7, h8⟩, h9, h5⟩, h2, h3, h6⟩
      exact ⟨⟨⟨h1, h2⟩, h3⟩, h4, h5, fun x hx => ⟨h6 x hx, fun e => h8 (e ▸ hx), fun e => h9 (e ▸ hx)⟩⟩
def isRoundB (l : List Tm) (r : List Pr) : Bool := fresh l r [] && areT l && decide ((sides r).length = l.length)
theorem sRound_l0 (l : List Tm) (r : List Pr) (hs : Small l) (hr : r.length ≤ 1048576) : ∀ (d n : Nat), n + d = r.length → Ev (fun k => spec_IsRound.l0 k l r (sides (r.take n)) (n : Int)) (fresh l (r.drop n) (sides (r.take n)) && areT l && decide ((sides r).length = l.length)) := by
  intro d
  induction d with
  | zero =>
    intro n hd
    refine Ev.step (fun k => spec_IsRound.l0.eq_2 ..) (Ev.neg (by omega) (Ev.bind (sAreTeams_ev l hs) ?_))
    rw [List.drop_eq_nil_of_le (by omega), List.take_of_length_le (by omega)]
    refine Ev.ite (fun h => Ev.some_ ?_) (fun h => Ev.some_ ?_)
    · simp only [fresh, h, Bool.true_and]
      rw [Bool.eq_iff_iff]
      simp
      omega
    · rw [Bool.not_eq_true] at h
      simp [h]
  | succ d ih =>
    intro n hd
    have hn : n < r.length := by omega
    refine Ev.step (fun k => spec_IsRound.l0.eq_2 ..) (Ev.pos (by omega) (Ev.pos (by omega) ?_))
    simp only [w64s (show n < 4611686018427387904 by omega), rdPair hn]
    rw [List.drop_eq_getElem_cons hn, fresh]
    have hlen : (sides (r.take n)).length ≤ 2097152 := by rw [sides_length, List.length_take]; omega
    refine Ev.bind (sMayMeet_ev l _ _ hs) ?_
    refine Ev.ite (fun h1 => ?_) (fun h1 => Ev.some_ (by simp [h1]))
    refine Ev.bind (l4Has_ev _ _ (by omega)) ?_
    refine Ev.ite (fun h2 => Ev.some_ (by rw [h2]; simp)) (fun h2 => ?_)
    refine Ev.bind (l4Has_ev _ _ (by omega)) ?_
    refine Ev.ite (fun h3 => Ev.some_ (by rw [h3]; simp)) (fun h3 => ?_)
    refine Ev.bnd rfl (Ev.pos (by simp; omega) ?_)
    have h4 := ih (n + 1) (by omega)
    rw [sides_take r n hn] at h4
    rw [Bool.not_eq_true] at h2 h3
    refine Ev.cast h4 ?_
    simp only [h1, h2, h3, Bool.not_false, Bool.true_and]
theorem sIsRound_ev (l : List Tm) (r : List Pr) (hs : Small l) (hr : r.length ≤ 1048576) : Ev (fun k => spec_IsRound.f k l r) (isRoundB l r) := by
  unfold spec_IsRound.f isRoundB
  exact sRound_l0 l r hs hr r.length 0 (by omega)
theorem iRound_l1 (l : List Tm) (s : List Int) (hs : Small l) (hl : s.length ≤ 1099511627776) : ∀ (d n : Nat), n + d = l.length → Ev (fun k => impl_IsRound.l1 k s l (l.length : Int) (n : Int)) ((l.drop n).all fun t => decide (s.count t.f0 = 1)) := by
  have hlen := hs.1
  intro d
  induction d with
  | zero =>
    intro n hd
    refine Ev.step (fun k => impl_IsRound.l1.eq_2 ..) (Ev.neg (by omega) (Ev.some_ ?_))
    rw [List.drop_eq_nil_of_le (by omega)]
    rfl
  | succ d ih =>
    intro n hd
    have hn : n < l.length := by omega
    refine Ev.step (fun k => impl_IsRound.l1.eq_2 ..) (Ev.pos (by omega) (Ev.pos (by omega) (Ev.pos (by omega) ?_)))
    simp only [w64s (show n < 4611686018427387904 by omega), rdTm hn]
    rw [List.drop_eq_getElem_cons hn, List.all_cons]
    refine Ev.bind (times_ev s _ hl) (Ev.ite (fun h => Ev.cast (ih (n + 1) (by omega)) ?_) (fun h => Ev.some_ ?_))
    · have : List.count l[n].f0 s = 1 := by omega
      simp [this]
    · have : ¬ List.count l[n].f0 s = 1 := by omega
      simp [this]
theorem iRound_l0 (l : List Tm) (r : List Pr) (hs : Small l) (hr : r.length ≤ 1048576) : ∀ (d n : Nat), n + d = r.length → Ev (fun k => impl_IsRound.l0 k l (sides (r.take n)) r (r.length : Int) (n : Int)) (((r.drop n).all fun p => mayT l p.f0 p.f1) && l.all fun t => decide ((sides r).count t.f0 = 1)) := by
  intro d
  induction d with
  | zero =>
    intro n hd
    refine Ev.step (fun k => impl_IsRound.l0.eq_2 ..) (Ev.neg (by omega) ?_)
    rw [List.drop_eq_nil_of_le (by omega), List.take_of_length_le (by omega)]
    exact Ev.cast (iRound_l1 l (sides r) hs (by rw [sides_length]; omega) l.length 0 (by omega)) (by simp)
  | succ d ih =>
    intro n hd
    have hn : n < r.length := by omega
    refine Ev.step (fun k => impl_IsRound.l0.eq_2 ..) (Ev.pos (by omega) (Ev.pos (by omega) (Ev.pos (by omega) ?_)))
    simp only [w64s (show n < 4611686018427387904 by omega), rdPair hn]
    rw [List.drop_eq_getElem_cons hn, List.all_cons]
    have hlen : (sides (r.take n)).length ≤ 2097152 := by rw [sides_length, List.length_take]; omega
    refine Ev.bind (iMayMeet_ev l _ _ hs) ?_
    refine Ev.ite (fun h1 => ?_) (fun h1 => Ev.some_ (by simp [h1]))
    refine Ev.bnd rfl (Ev.pos (by simp; omega) ?_)
    have h4 := ih (n + 1) (by omega)
    rw [sides_take r n hn] at h4
    refine Ev.cast h4 ?_
    simp only [h1, Bool.true_and]
theorem mem_sides : ∀ {r : List Pr} {x : Int}, x ∈ sides r → ∃ p ∈ r, x = p.f0 ∨ x = p.f1
  | [], x, h => by simp [sides] at h
  | p :: r, x, h => by
    simp only [sides, List.mem_cons] at h
    rcases h with rfl | rfl | h
    · exact ⟨p, by simp, .inl rfl⟩
    · exact ⟨p, by simp, .inr rfl⟩
    · obtain ⟨q, hq, e⟩ := mem_sides h
      exact ⟨q, by simp [hq], e⟩
theorem findT_mem {l : List Tm} {id : Int} (h : 0 ≤ findT l id) : id ∈ l.map (·.f0) := by
  have h1 := findT_range l id
  exact List.mem_map.2 ⟨_, rdTm_mem h h1.2, findT_id h⟩
theorem sides_mem {l : List Tm} {r : List Pr} (h : ∀ p ∈ r, mayT l p.f0 p.f1 = true) : ∀ x ∈ sides r, x ∈ l.map (·.f0) := by
  intro x hx
  obtain ⟨p, hp, e⟩ := mem_sides hx
  have := mayT_iff.1 (h p hp)
  rcases e with rfl | rfl
  · exact findT_mem this.2.1
  · exact findT_mem this.2.2.1
theorem tlT_row (l : List Tm) : ∀ (d n : Nat), tlT l d n = true → ∀ i : Nat, n ≤ i → i < n + d → rowT l i = true
  | 0, n, _, i, h1, h2 => by omega
  | d + 1, n, h, i, h1, h2 => by
    simp only [tlT, Bool.and_eq_true] at h
    by_cases e : i = n
    · subst e
      have := h.1
      simp only [okT, Bool.and_eq_true] at this
      exact this.1
    · exact tlT_row l d (n + 1) h.2 i (by omega) (by omega)
theorem areT_asc {l : List Tm} (h : areT l = true) : ∀ i : Nat, i + 1 < l.length → (rdT l i).f0 < (rdT l (i + 1 : Nat)).f0 := by
  intro i hi
  have h1 := tlT_row l l.length 0 h (i + 1) (by omega) (by omega)
  simp only [rowT, Bool.and_eq_true, decide_eq_true_eq] at h1
  have h2 := h1.2
  have e : ((i + 1 : Nat) : Int) - 1 = (i : Int) := by omega
  rw [e] at h2
  by_cases h3 : (rdT l i).f0 < (rdT l (i + 1 : Nat)).f0
  · exact h3
  · exact absurd ⟨by omega, by omega⟩ h2
theorem areT_nodup {l : List Tm} (h : areT l = true) : (l.map (·.f0)).Nodup := by
  rw [List.Nodup, List.pairwise_iff_getElem]
  intro i j hi hj hij
  have ha : ascT l (l.length - 1) := fun m hm => areT_asc h m (by omega)
  simp only [List.length_map] at hi hj
  have := ascT_lt ha j i hij (by omega)
  rw [rdT, rdT, rdTm hi, rdTm hj] at this
  simp only [List.getElem_map]
  omega
theorem areT_nil : areT [] = true := rfl
theorem round_eq (l : List Tm) (r : List Pr) : ((r.all fun p => mayT l p.f0 p.f1) && l.all fun t => decide ((sides r).count t.f0 = 1)) = isRoundB l r := by
  rw [Bool.eq_iff_iff]
  unfold isRoundB
  simp only [Bool.and_eq_true, List.all_eq_true, fresh_iff, decide_eq_true_eq]
  constructor
  · rintro ⟨h1, h2⟩
    have ha : areT l = true := by
      cases r with
      | nil =>
        cases l with
        | nil => exact areT_nil
        | cons t l => have := h2 t (by simp); simp [sides] at this
      | cons p r => exact (mayT_iff.1 (h1 p (by simp))).1
    have hn := areT_nodup ha
    have hsub := sides_mem h1
    have hsn : (sides r).Nodup := by
      rw [List.nodup_iff_count]
      intro x
      by_cases hx : x ∈ sides r
      · obtain ⟨t, ht, rfl⟩ := List.mem_map.1 (hsub x hx)
        exact Nat.le_of_eq (h2 t ht)
      · rw [List.count_eq_zero_of_not_mem hx]
        omega
    have hp : (sides r).Perm (l.map (·.f0)) := by
      rw [List.perm_ext_iff_of_nodup hsn hn]
      intro x
      refine ⟨hsub x, fun hx => ?_⟩
      obtain ⟨t, ht, rfl⟩ := List.mem_map.1 hx
      exact List.count_pos_iff.1 (by rw [h2 t ht]; omega)
    exact ⟨⟨⟨h1, hsn, fun x _ => List.not_mem_nil⟩, ha⟩, by rw [hp.length_eq, List.length_map]⟩
  · rintro ⟨⟨⟨h1, hsn, _⟩, ha⟩, hlen⟩
    have hn := areT_nodup ha
    have hp := perm_of_sub _ _ hsn (sides_mem h1) (by rw [List.length_map]; omega)
    refine ⟨h1, fun t ht => ?_⟩
    rw [hp.count_eq]
    have h3 := List.nodup_iff_count.1 hn t.f0
    have h4 := List.count_pos_iff.2 (List.mem_map.2 ⟨t, ht, rfl⟩ : t.f0 ∈ l.map (·.f0))
    omega
theorem iIsRound_ev (l : List Tm) (r : List Pr) (hs : Small l) (hr : r.length ≤ 1048576) : Ev (fun k => impl_IsRound.f k l r) (isRoundB l r) := by
  unfold impl_IsRound.f
  exact Ev.cast (iRound_l0 l r hs hr r.length 0 (by omega)) (round_eq l r)
end Go.Proofs.Ytiimiogpiflkdaa.L
end

section
set_option linter.unusedVariables false
set_option linter.unusedSimpArgs false
namespace Go.Proofs.Ytiimiogpiflkdaa.L
open Go Go.RowKit Go.Proofs.Ytiimiogpiflkdaa.A Go.Proofs.YtiimiogpiflkdaaW.PrintWords
theorem FnExactIsRound_pure (l0 : List S64) (l1 : List S73) (b0 : l0.length ≤ 9223372036854775807) (b1 : ∀ x ∈ l0, x.f5.length ≤ 9223372036854775807) (b2 : l1.length ≤ 9223372036854775807) : ∃ k, laws_FnExactIsRound.f k l0 l1 = some true := by
  refine Ev.rounds (g := fun k => laws_FnExactIsRound.f k l0 l1) ?_
  unfold laws_FnExactIsRound.f
  obtain ⟨v, hv, hv1, hv2⟩ := szTeamS_ev l0 b0 b1
  refine Ev.bind hv (Ev.ite (fun _ => Ev.now _) (fun hs => ?_))
  obtain ⟨hl, hi⟩ := hv2 hs
  have hs := (small_map l0 (by omega) (fun x hx => by have := hi x hx; omega))
  refine Ev.bnd (szPairS_eq l1 v (by omega) hv1 b2) (Ev.ite (fun _ => Ev.now _) (fun hs2 => ?_))
  have hl1 : l1.length ≤ 1048576 := by split at hs2 <;> omega
  refine Ev.bind (toTeamS_ev l0 (by omega) (fun x hx => by have := hi x hx; omega)) ?_
  refine Ev.bind (toPairS_ev l1 (by omega)) ?_
  refine Ev.bind (sIsRound_ev _ _ hs (by simp; omega)) ?_
  refine Ev.bind (toTeamS_ev l0 (by omega) (fun x hx => by have := hi x hx; omega)) ?_
  refine Ev.bind (toPairS_ev l1 (by omega)) ?_
  refine Ev.bind (iIsRound_ev _ _ hs (by simp; omega)) ?_
  refine Ev.neg (by simp) ?_
  refine Ev.bind (toTeamS_ev l0 (by omega) (fun x hx => by have := hi x hx; omega)) ?_
  refine Ev.bind (eqTeamS_ev _ hs) ?_
  refine Ev.pos rfl ?_
  refine Ev.bind (toPairS_ev l1 (by omega)) ?_
  refine Ev.bind (eqPairS_ev _ (by simp; omega)) ?_
  exact Ev.pos rfl (Ev.now _)
end Go.Proofs.Ytiimiogpiflkdaa.L
end
