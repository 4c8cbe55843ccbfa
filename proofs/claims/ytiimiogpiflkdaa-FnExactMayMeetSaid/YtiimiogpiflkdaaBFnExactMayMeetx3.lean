/- The texts that the row FnExactMayMeet rests on, put together: A31, A32, LOpen, LBase, LInt, LTeam1, LFind, LCnt, LRngS, LRngI, LTeam2, LCont, LHas, LMet, LMay, LXFnExactMayMeet. No condition. -/
import Derived.Test.YtiimiogpiflkdaaBFnExactMayMeetx0
import Derived.Test.YtiimiogpiflkdaaBFnExactMayMeetx1
import Derived.Test.YtiimiogpiflkdaaBFnExactMayMeetx2
import Derived.Test.YtiimiogpiflkdaaWMore
import Derived.Deep.Slices
import Derived.Deep.Fields
import Derived.ChangeSame
import Derived.Lib.SmallJoins
-- Printed for this claim by a program of the session's (the kit's print, with contracts of our own taken in). Lean checks it.
-- squeezed
namespace Go.Proofs.Ytiimiogpiflkdaa.A
open Go.RowKit Go.Proofs.YtiimiogpiflkdaaW.PrintWords Go.Proofs.YtiimiogpiflkdaaW.PrintLast Go.Proofs.YtiimiogpiflkdaaW.PrintMore
attribute [local go_sem] max2_int min2_int max_two min_two max_three min_three max_four min_four   -- for this text's walks alone
set_option linter.unusedVariables false
set_option linter.unusedSimpArgs false

/-! ### impl_MayMeet: function 27 -/
def impl_MayMeet.f (k : Nat) (l0 : List (S61)) (a1 : Int) (a2 : Int) : Option (Bool) := (impl_FindTeam.f l0 a1).bind fun t243 => ((impl_FindTeam.f l0 a2).bind fun t244 => ((impl_AreTeams.f k l0).bind fun t245 => (if t245 = true then (if t243 ≥ 0 then (if t244 ≥ 0 then (if t243 = t244 then (some false) else (if 0 ≤ t243 then (if t243 < (l0.length : Int) then (if 0 ≤ t244 then (if t244 < (l0.length : Int) then (if ((rd_T61 l0 t243).f1) = ((rd_T61 l0 t244).f1) then (some false) else ((impl_HaveMet.f k l0 a1 a2).bind fun t248 => (some (!t248)))) else (none)) else (none)) else (none)) else (none))) else (some false)) else (some false)) else (some false))))
theorem impl_MayMeet.mono : ∀ a0 a1 a2 k, LeO (impl_MayMeet.f k a0 a1 a2) (impl_MayMeet.f (k + 1) a0 a1 a2) := by
  intro a0 a1 a2 k
  unfold impl_MayMeet.f
  repeat' first
      | (with_reducible exact impl_AreTeams.mono _ _)
      | (with_reducible exact impl_HaveMet.mono _ _ _ _)
      | (with_reducible exact LeO.refl _)
      | (with_reducible exact LeO.none _)
      | (with_reducible refine LeO.ite ?_ ?_)
      | (with_reducible refine LeO.bind ?_ (fun _ => ?_))
      | exact impl_AreTeams.mono _ _
      | exact impl_HaveMet.mono _ _ _ _
      | exact LeO.none _
      | refine LeO.ite ?_ ?_
      | refine LeO.bind ?_ (fun _ => ?_)
def impl_MayMeet.T2 : Bool × List (List Nat × List Nat) := (true, [([], []), ([0], [0]), ([1, 1], [1]), ([2], [2]), ([3, 2], [2, 3]), ([2, 4], [2, 4]), ([5, 2], [5]), ([6], [6]), ([7, 6], [6, 7]), ([6, 8], [6, 8]), ([9, 6], [9]), ([10], [10]), ([10], [10]), ([11, 12, 10], [10, 11, 12]), ([10, 13], [10, 13]), ([14, 10], [14]), ([15], [15]), ([15], [15]), ([16, 17, 15], [15, 16, 17]), ([18, 15], [15, 18]), ([19, 15], [15, 19]), ([15], [15]), ([15], [15]), ([21, 22, 15], [15, 21, 22]), ([23, 15], [15, 23]), ([24, 15], [15, 24]), ([20, 25, 15], [15, 20, 25]), ([15, 26], [15, 26]), ([27, 15], [27]), ([28], [28]), ([28], [28]), ([28], [28]), ([29, 30, 31, 28, 28], [28, 29, 30, 31]), ([32, 28], [28, 32]), ([28, 33], [28, 33]), ([34, 32, 0, 1, 2, 3, 4, 5, 6, 7, 8, 9, 10, 11, 12, 13, 14, 15, 16, 17, 18, 19, 20, 21, 22, 23, 24, 25, 26, 27, 28, 29, 30, 31, 32, 33, 34], [34])])
def impl_MayMeet.B2 : List Nat := [0, 1, 3, 7, 15, 31, 63, 127, 255, 511, 1023, 2047, 2047, 8191, 16383, 32767, 65535, 65535, 262143, 524287, 1048575, 65535, 65535, 6356991, 14745599, 31522815, 67108863, 134217727, 268435455, 536870911, 536870911, 536870911, 4294967295, 8589934591, 17179869183, 34359738367]
theorem impl_MayMeet.tab2 : rtab .any (opsOf Try.f27 2) = impl_MayMeet.T2 := by kernel_rfl
theorem impl_MayMeet.bits2 : waitsOk impl_MayMeet.T2.2 impl_MayMeet.B2 = true := by kernel_rfl
set_option maxHeartbeats 8000000 in
set_option maxRecDepth 100000 in
theorem impl_MayMeet.calls (k : Nat) (A0 : Option Addr) (c0 : Nat) (l0 : List (S61)) (a1 : Int) (a2 : Int) (r : Bool) (w : World) (hr0 : Kd.C k61 w A0 l0.length l0) (hc0 : l0.length ≤ c0) (h : impl_MayMeet.f k l0 a1 a2 = some r) :
  Calls Try.prog 27 #[.slice A0 l0.length c0, .int .i64 a1, .int .i64 a2] w fun e w' => e = .returned (.bool r) ∧ Below w.heap.size w w' := by
 have HR0 := Aside0.mk hr0
 have HC0 := Aside0.mk hc0
 clear hr0 hc0
 have HB := Aside0.mk (Below.refl w.heap.size w)
 have H : ((impl_FindTeam.f l0 a1).bind fun t243 => ((impl_FindTeam.f l0 a2).bind fun t244 => ((impl_AreTeams.f k l0).bind fun t245 => (if t245 = true then (if t243 ≥ 0 then (if t244 ≥ 0 then (if t243 = t244 then (some false) else (if 0 ≤ t243 then (if t243 < (l0.length : Int) then (if 0 ≤ t244 then (if t244 < (l0.length : Int) then (if ((rd_T61 l0 t243).f1) = ((rd_T61 l0 t244).f1) then (some false) else ((impl_HaveMet.f k l0 a1 a2).bind fun t248 => (some (!t248)))) else (none)) else (none)) else (none)) else (none))) else (some false)) else (some false)) else (some false))))) = some r := h
 clear h
 replace H := Option.bind_eq_some_iff.mp H
 obtain ⟨t243, A40, H⟩ := H
 replace H : ((impl_FindTeam.f l0 a2).bind fun t244 => ((impl_AreTeams.f k l0).bind fun t245 => (if t245 = true then (if t243 ≥ 0 then (if t244 ≥ 0 then (if t243 = t244 then (some false) else (if 0 ≤ t243 then (if t243 < (l0.length : Int) then (if 0 ≤ t244 then (if t244 < (l0.length : Int) then (if ((rd_T61 l0 t243).f1) = ((rd_T61 l0 t244).f1) then (some false) else ((impl_HaveMet.f k l0 a1 a2).bind fun t248 => (some (!t248)))) else (none)) else (none)) else (none)) else (none))) else (some false)) else (some false)) else (some false)))) = some r := H
 have A4 := Aside0.mk A40
 clear A40
 replace H := Option.bind_eq_some_iff.mp H
 obtain ⟨t244, A50, H⟩ := H
 replace H : ((impl_AreTeams.f k l0).bind fun t245 => (if t245 = true then (if t243 ≥ 0 then (if t244 ≥ 0 then (if t243 = t244 then (some false) else (if 0 ≤ t243 then (if t243 < (l0.length : Int) then (if 0 ≤ t244 then (if t244 < (l0.length : Int) then (if ((rd_T61 l0 t243).f1) = ((rd_T61 l0 t244).f1) then (some false) else ((impl_HaveMet.f k l0 a1 a2).bind fun t248 => (some (!t248)))) else (none)) else (none)) else (none)) else (none))) else (some false)) else (some false)) else (some false))) = some r := H
 have A5 := Aside0.mk A50
 clear A50
 replace H := Option.bind_eq_some_iff.mp H
 obtain ⟨t245, A60, H⟩ := H
 replace H : (if t245 = true then (if t243 ≥ 0 then (if t244 ≥ 0 then (if t243 = t244 then (some false) else (if 0 ≤ t243 then (if t243 < (l0.length : Int) then (if 0 ≤ t244 then (if t244 < (l0.length : Int) then (if ((rd_T61 l0 t243).f1) = ((rd_T61 l0 t244).f1) then (some false) else ((impl_HaveMet.f k l0 a1 a2).bind fun t248 => (some (!t248)))) else (none)) else (none)) else (none)) else (none))) else (some false)) else (some false)) else (some false)) = some r := H
 have A6 := Aside0.mk A60
 clear A60
 by_cases c7 : t245 = true
 rotate_left
 ·
  replace c7 := Bool.eq_false_iff.mpr c7
  subst c7
  have H1 : (some false) = some r := by rw [if_neg (show ¬ (false = true) by decide)] at H; exact H
  clear H
  have H := H1
  clear H1
  obtain rfl := Option.some.inj H
  go_enter Try.func27, Try.ntmps27
  try go_wp2_with (first | ((with_reducible refine gate_callee (f := 18) rfl ?_); refine goesL_ (some 11) rfl rfl Try.func18 (by kernel_rfl) rfl #[.slice A0 l0.length c0, .int .i64 a1] rfl (by (try simp only [List.map_toArray, List.map_cons, List.map_nil]); first | done | rfl | (simp only [List.length_drop, List.length_take]; rfl)) ?_; (with_reducible refine (impl_FindTeam.calls _ _ l0 a1 t243 _ ?side1 ?side2 A4.out).mono ?_); (case side1 => repeat (first | exact HR0.out | (with_reducible refine Kd.C_alloc ?_ _) | (with_reducible refine Kd.C_drewN ?_ _) | (with_reducible refine Kd.C_drew ?_))); (case side2 => exact HC0.out); rintro e w38 ⟨rfl, hb⟩; refine ⟨_, rfl, ?_⟩; have n0_ := Aside0.mk (below_step (by repeat (first | (with_reducible first | exact HB.out | apply below_alloc | apply pw_below_drewN | apply below_drew1) | exact HB.out)) hb); clear HB; have HB := n0_; clear n0_; (try clear hb); (try clear hb2); (try clear hk); (try clear hi)) | ((with_reducible refine gate_callee (f := 18) rfl ?_); refine goesL_ (some 14) rfl rfl Try.func18 (by kernel_rfl) rfl #[.slice A0 l0.length c0, .int .i64 a2] rfl (by (try simp only [List.map_toArray, List.map_cons, List.map_nil]); first | done | rfl | (simp only [List.length_drop, List.length_take]; rfl)) ?_; (with_reducible refine (impl_FindTeam.calls _ _ l0 a2 t244 _ ?side1 ?side2 A5.out).mono ?_); (case side1 => repeat (first | exact (Kd.C_below HR0.out HB.out) | (with_reducible refine Kd.C_alloc ?_ _) | (with_reducible refine Kd.C_drewN ?_ _) | (with_reducible refine Kd.C_drew ?_))); (case side2 => exact HC0.out); rintro e w39 ⟨rfl, hb⟩; refine ⟨_, rfl, ?_⟩; have n0_ := Aside0.mk (below_step (by repeat (first | (with_reducible first | exact HB.out | apply below_alloc | apply pw_below_drewN | apply below_drew1) | exact HB.out)) hb); clear HB; have HB := n0_; clear n0_; (try clear hb); (try clear hb2); (try clear hk); (try clear hi)))
  have n0_ := Aside0.mk (below_drew1 HB.out)
  clear HB
  have HB := n0_
  clear n0_
  refine start_ (n := 36) (S := fun w' => True) (ds := []) (bv 36 0) (by kernel_rfl) rfl rfl trivial (fun hHeld => ?_); refine with_tabW impl_MayMeet.tab2 impl_MayMeet.bits2 (fun HT_ HW_ => ?_)
  generalize w39.drew = w40 at HB hHeld ⊢
  refine pv_ 36 0 15 1 rfl rfl HT_ ?_
  refine one_ (i := 1) (N := some 16) (bv 36 3) rfl rfl (one_of HT_.out (by kernel_rfl)) (by decide) (fun K hK => ?_)
  refine goes_ Try.func21 (by kernel_rfl) rfl #[.slice A0 l0.length c0] (by rfl) rfl rfl (by (try simp only [List.map_toArray, List.map_cons, List.map_nil]); first | done | rfl | (simp only [List.length_drop, List.length_take]; rfl)) ?_
  with_reducible refine (impl_AreTeams.calls k _ _ l0 false _ ?side1 ?side2 A6.out).mono ?_
  (case side1 => repeat (first | exact (Kd.C_below HR0.out HB.out) | (with_reducible refine Kd.C_alloc ?_ _) | (with_reducible refine Kd.C_drewN ?_ _) | (with_reducible refine Kd.C_drew ?_)))
  (case side2 => exact HC0.out)
  rintro e w41 ⟨rfl, hb⟩
  refine ⟨_, rfl, ?_⟩
  have n0_ := Aside0.mk (below_step (by repeat (first | (with_reducible first | exact HB.out | apply below_alloc | apply pw_below_drewN | apply below_drew1) | exact HB.out)) hb)
  clear HB
  have HB := n0_
  clear n0_
  (try clear hb)
  (try clear hb2)
  (try clear hk)
  (try clear hi)
  refine hK.out _ _ trivial (fun hHeld => ?_)
  clear hK K
  refine nm_ 16 ?_
  refine pv_ 36 2 17 7 rfl rfl HT_ ?_; refine pu_ 36 3 18 15 rfl rfl HT_ ?_; refine pu_ 36 4 19 31 rfl rfl HT_ ?_; refine pv_ 36 5 20 63 rfl rfl HT_ ?_; refine pv_ 36 6 21 127 rfl rfl HT_ ?_; refine pu_ 36 7 22 255 rfl rfl HT_ ?_; refine pu_ 36 8 23 511 rfl rfl HT_ ?_; refine pv_ 36 9 24 1023 rfl rfl HT_ ?_; refine pv_ 36 10 25 2047 rfl rfl HT_ ?_; refine pu_ 36 11 26 4095 rfl rfl HT_ ?_; refine pu_ 36 12 27 8191 rfl rfl HT_ ?_; refine pu_ 36 13 28 16383 rfl rfl HT_ ?_; refine pv_ 36 14 29 32767 rfl rfl HT_ ?_; refine pv_ 36 15 30 65535 rfl rfl HT_ ?_; refine pu_ 36 16 31 131071 rfl rfl HT_ ?_; refine pu_ 36 17 32 262143 rfl rfl HT_ ?_; refine pu_ 36 18 33 524287 rfl rfl HT_ ?_; refine pu_ 36 19 34 1048575 rfl rfl HT_ ?_; refine pu_ 36 20 35 2097151 rfl rfl HT_ ?_; refine pu_ 36 21 36 4194303 rfl rfl HT_ ?_; refine pu_ 36 22 37 8388607 rfl rfl HT_ ?_; refine pu_ 36 23 38 16777215 rfl rfl HT_ ?_
  refine pu_ 36 24 39 33554431 rfl rfl HT_ ?_; refine pu_ 36 25 40 67108863 rfl rfl HT_ ?_; refine pu_ 36 26 41 134217727 rfl rfl HT_ ?_; refine pv_ 36 27 42 268435455 rfl rfl HT_ ?_; refine pv_ 36 28 43 536870911 rfl rfl HT_ ?_; refine pu_ 36 29 44 1073741823 rfl rfl HT_ ?_; refine pu_ 36 30 45 2147483647 rfl rfl HT_ ?_; refine pu_ 36 31 46 4294967295 rfl rfl HT_ ?_; refine pu_ 36 32 47 8589934591 rfl rfl HT_ ?_; refine pu_ 36 33 48 17179869183 rfl rfl HT_ ?_; refine pv_ 36 34 49 34359738367 rfl rfl HT_ ?_; refine pv_ 36 35 6 68719476735 rfl rfl HT_ ?_
  refine done_ (done_of HT_.out (by kernel_rfl)) ?_
  try go_wp2
  all_goals (go_ret; exact ⟨by first | rfl | (simp [errW_none, errW_some] <;> rfl) | (simp [*, errW_none, errW_some] <;> rfl), by repeat (first | (with_reducible first | exact HB.out | apply below_alloc | apply pw_below_drewN | apply below_drew1) | exact HB.out)⟩)

 subst c7
 have H1 : (if t243 ≥ 0 then (if t244 ≥ 0 then (if t243 = t244 then (some false) else (if 0 ≤ t243 then (if t243 < (l0.length : Int) then (if 0 ≤ t244 then (if t244 < (l0.length : Int) then (if ((rd_T61 l0 t243).f1) = ((rd_T61 l0 t244).f1) then (some false) else ((impl_HaveMet.f k l0 a1 a2).bind fun t248 => (some (!t248)))) else (none)) else (none)) else (none)) else (none))) else (some false)) else (some false)) = some r := by rw [if_pos rfl] at H; exact H
 clear H
 have H := H1
 clear H1
 by_cases c8 : t243 ≥ 0
 rotate_left
 ·
  rw [if_neg c8] at H
  have c8b0 : decide (0 ≤ t243) = false := decide_eq_false c8
  clear c8
  obtain rfl := Option.some.inj H
  go_enter Try.func27, Try.ntmps27
  try go_wp2_with (first | ((with_reducible refine gate_callee (f := 18) rfl ?_); refine goesL_ (some 11) rfl rfl Try.func18 (by kernel_rfl) rfl #[.slice A0 l0.length c0, .int .i64 a1] rfl (by (try simp only [List.map_toArray, List.map_cons, List.map_nil]); first | done | rfl | (simp only [List.length_drop, List.length_take]; rfl)) ?_; (with_reducible refine (impl_FindTeam.calls _ _ l0 a1 t243 _ ?side1 ?side2 A4.out).mono ?_); (case side1 => repeat (first | exact HR0.out | (with_reducible refine Kd.C_alloc ?_ _) | (with_reducible refine Kd.C_drewN ?_ _) | (with_reducible refine Kd.C_drew ?_))); (case side2 => exact HC0.out); rintro e w34 ⟨rfl, hb⟩; refine ⟨_, rfl, ?_⟩; have n0_ := Aside0.mk (below_step (by repeat (first | (with_reducible first | exact HB.out | apply below_alloc | apply pw_below_drewN | apply below_drew1) | exact HB.out)) hb); clear HB; have HB := n0_; clear n0_; (try clear hb); (try clear hb2); (try clear hk); (try clear hi)) | ((with_reducible refine gate_callee (f := 18) rfl ?_); refine goesL_ (some 14) rfl rfl Try.func18 (by kernel_rfl) rfl #[.slice A0 l0.length c0, .int .i64 a2] rfl (by (try simp only [List.map_toArray, List.map_cons, List.map_nil]); first | done | rfl | (simp only [List.length_drop, List.length_take]; rfl)) ?_; (with_reducible refine (impl_FindTeam.calls _ _ l0 a2 t244 _ ?side1 ?side2 A5.out).mono ?_); (case side1 => repeat (first | exact (Kd.C_below HR0.out HB.out) | (with_reducible refine Kd.C_alloc ?_ _) | (with_reducible refine Kd.C_drewN ?_ _) | (with_reducible refine Kd.C_drew ?_))); (case side2 => exact HC0.out); rintro e w35 ⟨rfl, hb⟩; refine ⟨_, rfl, ?_⟩; have n0_ := Aside0.mk (below_step (by repeat (first | (with_reducible first | exact HB.out | apply below_alloc | apply pw_below_drewN | apply below_drew1) | exact HB.out)) hb); clear HB; have HB := n0_; clear n0_; (try clear hb); (try clear hb2); (try clear hk); (try clear hi)))
  have n0_ := Aside0.mk (below_drew1 HB.out)
  clear HB
  have HB := n0_
  clear n0_
  refine start_ (n := 36) (S := fun w' => True) (ds := []) (bv 36 0) (by kernel_rfl) rfl rfl trivial (fun hHeld => ?_); refine with_tabW impl_MayMeet.tab2 impl_MayMeet.bits2 (fun HT_ HW_ => ?_)
  generalize w35.drew = w36 at HB hHeld ⊢
  refine pv_ 36 0 15 1 rfl rfl HT_ ?_
  refine one_ (i := 1) (N := some 16) (bv 36 3) rfl rfl (one_of HT_.out (by kernel_rfl)) (by decide) (fun K hK => ?_)
  refine goes_ Try.func21 (by kernel_rfl) rfl #[.slice A0 l0.length c0] (by rfl) rfl rfl (by (try simp only [List.map_toArray, List.map_cons, List.map_nil]); first | done | rfl | (simp only [List.length_drop, List.length_take]; rfl)) ?_
  with_reducible refine (impl_AreTeams.calls k _ _ l0 true _ ?side1 ?side2 A6.out).mono ?_
  (case side1 => repeat (first | exact (Kd.C_below HR0.out HB.out) | (with_reducible refine Kd.C_alloc ?_ _) | (with_reducible refine Kd.C_drewN ?_ _) | (with_reducible refine Kd.C_drew ?_)))
  (case side2 => exact HC0.out)
  rintro e w37 ⟨rfl, hb⟩
  refine ⟨_, rfl, ?_⟩
  have n0_ := Aside0.mk (below_step (by repeat (first | (with_reducible first | exact HB.out | apply below_alloc | apply pw_below_drewN | apply below_drew1) | exact HB.out)) hb)
  clear HB
  have HB := n0_
  clear n0_
  (try clear hb)
  (try clear hb2)
  (try clear hk)
  (try clear hi)
  refine hK.out _ _ trivial (fun hHeld => ?_)
  clear hK K
  refine nm_ 16 ?_
  refine pv_ 36 2 17 7 rfl rfl HT_ ?_; refine pv_ 36 3 18 15 rfl rfl HT_ ?_; refine pv_ 36 4 19 31 rfl rfl HT_ ?_; refine pv_ 36 5 20 63 rfl rfl HT_ ?_; refine pv_ 36 6 21 127 rfl rfl HT_ ?_; refine pu_ 36 7 22 255 rfl rfl HT_ ?_; refine pu_ 36 8 23 511 rfl rfl HT_ ?_; refine pv_ 36 9 24 1023 rfl rfl HT_ ?_; refine pv_ 36 10 25 2047 rfl rfl HT_ ?_; refine pu_ 36 11 26 4095 rfl rfl HT_ ?_; refine pu_ 36 12 27 8191 rfl rfl HT_ ?_; refine pu_ 36 13 28 16383 rfl rfl HT_ ?_; refine pv_ 36 14 29 32767 rfl rfl HT_ ?_; refine pv_ 36 15 30 65535 rfl rfl HT_ ?_; refine pu_ 36 16 31 131071 rfl rfl HT_ ?_; refine pu_ 36 17 32 262143 rfl rfl HT_ ?_; refine pu_ 36 18 33 524287 rfl rfl HT_ ?_; refine pu_ 36 19 34 1048575 rfl rfl HT_ ?_; refine pu_ 36 20 35 2097151 rfl rfl HT_ ?_; refine pu_ 36 21 36 4194303 rfl rfl HT_ ?_; refine pu_ 36 22 37 8388607 rfl rfl HT_ ?_; refine pu_ 36 23 38 16777215 rfl rfl HT_ ?_
  refine pu_ 36 24 39 33554431 rfl rfl HT_ ?_; refine pu_ 36 25 40 67108863 rfl rfl HT_ ?_; refine pu_ 36 26 41 134217727 rfl rfl HT_ ?_; refine pv_ 36 27 42 268435455 rfl rfl HT_ ?_; refine pv_ 36 28 43 536870911 rfl rfl HT_ ?_; refine pu_ 36 29 44 1073741823 rfl rfl HT_ ?_; refine pu_ 36 30 45 2147483647 rfl rfl HT_ ?_; refine pu_ 36 31 46 4294967295 rfl rfl HT_ ?_; refine pu_ 36 32 47 8589934591 rfl rfl HT_ ?_; refine pu_ 36 33 48 17179869183 rfl rfl HT_ ?_; refine pv_ 36 34 49 34359738367 rfl rfl HT_ ?_; refine pv_ 36 35 6 68719476735 rfl rfl HT_ ?_
  refine done_ (done_of HT_.out (by kernel_rfl)) ?_
  try go_wp2
  all_goals (go_ret; exact ⟨by first | rfl | (simp [errW_none, errW_some] <;> rfl) | (simp [*, errW_none, errW_some] <;> rfl), by repeat (first | (with_reducible first | exact HB.out | apply below_alloc | apply pw_below_drewN | apply below_drew1) | exact HB.out)⟩)
 rw [if_pos c8] at H
 have c8b0 : decide (0 ≤ t243) = true := decide_eq_true c8
 clear c8
 by_cases c9 : t244 ≥ 0
 rotate_left
 ·
  rw [if_neg c9] at H
  have c9b0 : decide (0 ≤ t244) = false := decide_eq_false c9
  clear c9
  obtain rfl := Option.some.inj H
  go_enter Try.func27, Try.ntmps27
  try go_wp2_with (first | ((with_reducible refine gate_callee (f := 18) rfl ?_); refine goesL_ (some 11) rfl rfl Try.func18 (by kernel_rfl) rfl #[.slice A0 l0.length c0, .int .i64 a1] rfl (by (try simp only [List.map_toArray, List.map_cons, List.map_nil]); first | done | rfl | (simp only [List.length_drop, List.length_take]; rfl)) ?_; (with_reducible refine (impl_FindTeam.calls _ _ l0 a1 t243 _ ?side1 ?side2 A4.out).mono ?_); (case side1 => repeat (first | exact HR0.out | (with_reducible refine Kd.C_alloc ?_ _) | (with_reducible refine Kd.C_drewN ?_ _) | (with_reducible refine Kd.C_drew ?_))); (case side2 => exact HC0.out); rintro e w30 ⟨rfl, hb⟩; refine ⟨_, rfl, ?_⟩; have n0_ := Aside0.mk (below_step (by repeat (first | (with_reducible first | exact HB.out | apply below_alloc | apply pw_below_drewN | apply below_drew1) | exact HB.out)) hb); clear HB; have HB := n0_; clear n0_; (try clear hb); (try clear hb2); (try clear hk); (try clear hi)) | ((with_reducible refine gate_callee (f := 18) rfl ?_); refine goesL_ (some 14) rfl rfl Try.func18 (by kernel_rfl) rfl #[.slice A0 l0.length c0, .int .i64 a2] rfl (by (try simp only [List.map_toArray, List.map_cons, List.map_nil]); first | done | rfl | (simp only [List.length_drop, List.length_take]; rfl)) ?_; (with_reducible refine (impl_FindTeam.calls _ _ l0 a2 t244 _ ?side1 ?side2 A5.out).mono ?_); (case side1 => repeat (first | exact (Kd.C_below HR0.out HB.out) | (with_reducible refine Kd.C_alloc ?_ _) | (with_reducible refine Kd.C_drewN ?_ _) | (with_reducible refine Kd.C_drew ?_))); (case side2 => exact HC0.out); rintro e w31 ⟨rfl, hb⟩; refine ⟨_, rfl, ?_⟩; have n0_ := Aside0.mk (below_step (by repeat (first | (with_reducible first | exact HB.out | apply below_alloc | apply pw_below_drewN | apply below_drew1) | exact HB.out)) hb); clear HB; have HB := n0_; clear n0_; (try clear hb); (try clear hb2); (try clear hk); (try clear hi)))
  have n0_ := Aside0.mk (below_drew1 HB.out)
  clear HB
  have HB := n0_
  clear n0_
  refine start_ (n := 36) (S := fun w' => True) (ds := []) (bv 36 0) (by kernel_rfl) rfl rfl trivial (fun hHeld => ?_); refine with_tabW impl_MayMeet.tab2 impl_MayMeet.bits2 (fun HT_ HW_ => ?_)
  generalize w31.drew = w32 at HB hHeld ⊢
  refine pv_ 36 0 15 1 rfl rfl HT_ ?_
  refine one_ (i := 1) (N := some 16) (bv 36 3) rfl rfl (one_of HT_.out (by kernel_rfl)) (by decide) (fun K hK => ?_)
  refine goes_ Try.func21 (by kernel_rfl) rfl #[.slice A0 l0.length c0] (by rfl) rfl rfl (by (try simp only [List.map_toArray, List.map_cons, List.map_nil]); first | done | rfl | (simp only [List.length_drop, List.length_take]; rfl)) ?_
  with_reducible refine (impl_AreTeams.calls k _ _ l0 true _ ?side1 ?side2 A6.out).mono ?_
  (case side1 => repeat (first | exact (Kd.C_below HR0.out HB.out) | (with_reducible refine Kd.C_alloc ?_ _) | (with_reducible refine Kd.C_drewN ?_ _) | (with_reducible refine Kd.C_drew ?_)))
  (case side2 => exact HC0.out)
  rintro e w33 ⟨rfl, hb⟩
  refine ⟨_, rfl, ?_⟩
  have n0_ := Aside0.mk (below_step (by repeat (first | (with_reducible first | exact HB.out | apply below_alloc | apply pw_below_drewN | apply below_drew1) | exact HB.out)) hb)
  clear HB
  have HB := n0_
  clear n0_
  (try clear hb)
  (try clear hb2)
  (try clear hk)
  (try clear hi)
  refine hK.out _ _ trivial (fun hHeld => ?_)
  clear hK K
  refine nm_ 16 ?_
  refine pv_ 36 2 17 7 rfl rfl HT_ ?_; refine pv_ 36 3 18 15 rfl rfl HT_ ?_; refine pv_ 36 4 19 31 rfl rfl HT_ ?_; refine pv_ 36 5 20 63 rfl rfl HT_ ?_; refine pv_ 36 6 21 127 rfl rfl HT_ ?_; refine pv_ 36 7 22 255 rfl rfl HT_ ?_; refine pv_ 36 8 23 511 rfl rfl HT_ ?_; refine pv_ 36 9 24 1023 rfl rfl HT_ ?_; refine pv_ 36 10 25 2047 rfl rfl HT_ ?_; refine pu_ 36 11 26 4095 rfl rfl HT_ ?_; refine pu_ 36 12 27 8191 rfl rfl HT_ ?_; refine pu_ 36 13 28 16383 rfl rfl HT_ ?_; refine pv_ 36 14 29 32767 rfl rfl HT_ ?_; refine pv_ 36 15 30 65535 rfl rfl HT_ ?_; refine pu_ 36 16 31 131071 rfl rfl HT_ ?_; refine pu_ 36 17 32 262143 rfl rfl HT_ ?_; refine pu_ 36 18 33 524287 rfl rfl HT_ ?_; refine pu_ 36 19 34 1048575 rfl rfl HT_ ?_; refine pu_ 36 20 35 2097151 rfl rfl HT_ ?_; refine pu_ 36 21 36 4194303 rfl rfl HT_ ?_; refine pu_ 36 22 37 8388607 rfl rfl HT_ ?_; refine pu_ 36 23 38 16777215 rfl rfl HT_ ?_
  refine pu_ 36 24 39 33554431 rfl rfl HT_ ?_; refine pu_ 36 25 40 67108863 rfl rfl HT_ ?_; refine pu_ 36 26 41 134217727 rfl rfl HT_ ?_; refine pv_ 36 27 42 268435455 rfl rfl HT_ ?_; refine pv_ 36 28 43 536870911 rfl rfl HT_ ?_; refine pu_ 36 29 44 1073741823 rfl rfl HT_ ?_; refine pu_ 36 30 45 2147483647 rfl rfl HT_ ?_; refine pu_ 36 31 46 4294967295 rfl rfl HT_ ?_; refine pu_ 36 32 47 8589934591 rfl rfl HT_ ?_; refine pu_ 36 33 48 17179869183 rfl rfl HT_ ?_; refine pv_ 36 34 49 34359738367 rfl rfl HT_ ?_; refine pv_ 36 35 6 68719476735 rfl rfl HT_ ?_
  refine done_ (done_of HT_.out (by kernel_rfl)) ?_
  try go_wp2
  all_goals (go_ret; exact ⟨by first | rfl | (simp [errW_none, errW_some] <;> rfl) | (simp [*, errW_none, errW_some] <;> rfl), by repeat (first | (with_reducible first | exact HB.out | apply below_alloc | apply pw_below_drewN | apply below_drew1) | exact HB.out)⟩)
 rw [if_pos c9] at H
 have c9b0 : decide (0 ≤ t244) = true := decide_eq_true c9
 clear c9
 by_cases c10 : t243 = t244
 rotate_left
 ·
  rw [if_neg c10] at H
  have c10b0 : (t243 == t244) = false := beq_eq_false_iff_ne.mpr c10
  have c10b1 : (t243 != t244) = true := bne_iff_ne.mpr c10
  by_cases c15 : 0 ≤ t243
  rotate_left
  ·
   rw [if_neg c15] at H
   exact absurd H (by simp)
  rw [if_pos c15] at H
  have c15b0 : decide (0 ≤ t243) = true := decide_eq_true c15
  clear c15
  by_cases c16 : t243 < (l0.length : Int)
  rotate_left
  ·
   rw [if_neg c16] at H
   exact absurd H (by simp)
  rw [if_pos c16] at H
  have c16b0 : decide (t243 < (l0.length : Int)) = true := decide_eq_true c16
  clear c16
  by_cases c17 : 0 ≤ t244
  rotate_left
  ·
   rw [if_neg c17] at H
   exact absurd H (by simp)
  rw [if_pos c17] at H
  have c17b0 : decide (0 ≤ t244) = true := decide_eq_true c17
  clear c17
  by_cases c18 : t244 < (l0.length : Int)
  rotate_left
  ·
   rw [if_neg c18] at H
   exact absurd H (by simp)
  rw [if_pos c18] at H
  have c18b0 : decide (t244 < (l0.length : Int)) = true := decide_eq_true c18
  clear c18
  by_cases c19 : ((rd_T61 l0 t243).f1) = ((rd_T61 l0 t244).f1)
  rotate_left
  ·
   rw [if_neg c19] at H
   have c19b0 : (((rd_T61 l0 t243).f1) == ((rd_T61 l0 t244).f1)) = false := beq_eq_false_iff_ne.mpr c19
   have c19b1 : (((rd_T61 l0 t243).f1) != ((rd_T61 l0 t244).f1)) = true := bne_iff_ne.mpr c19
   replace H := Option.bind_eq_some_iff.mp H
   obtain ⟨t248, A240, H⟩ := H
   replace H : (some (!t248)) = some r := H
   have A24 := Aside0.mk A240
   clear A240
   obtain rfl := Option.some.inj H
   go_enter Try.func27, Try.ntmps27
   try go_wp2_with (first | ((with_reducible refine gate_callee (f := 18) rfl ?_); refine goesL_ (some 11) rfl rfl Try.func18 (by kernel_rfl) rfl #[.slice A0 l0.length c0, .int .i64 a1] rfl (by (try simp only [List.map_toArray, List.map_cons, List.map_nil]); first | done | rfl | (simp only [List.length_drop, List.length_take]; rfl)) ?_; (with_reducible refine (impl_FindTeam.calls _ _ l0 a1 t243 _ ?side1 ?side2 A4.out).mono ?_); (case side1 => repeat (first | exact HR0.out | (with_reducible refine Kd.C_alloc ?_ _) | (with_reducible refine Kd.C_drewN ?_ _) | (with_reducible refine Kd.C_drew ?_))); (case side2 => exact HC0.out); rintro e w25 ⟨rfl, hb⟩; refine ⟨_, rfl, ?_⟩; have n0_ := Aside0.mk (below_step (by repeat (first | (with_reducible first | exact HB.out | apply below_alloc | apply pw_below_drewN | apply below_drew1) | exact HB.out)) hb); clear HB; have HB := n0_; clear n0_; (try clear hb); (try clear hb2); (try clear hk); (try clear hi)) | ((with_reducible refine gate_callee (f := 18) rfl ?_); refine goesL_ (some 14) rfl rfl Try.func18 (by kernel_rfl) rfl #[.slice A0 l0.length c0, .int .i64 a2] rfl (by (try simp only [List.map_toArray, List.map_cons, List.map_nil]); first | done | rfl | (simp only [List.length_drop, List.length_take]; rfl)) ?_; (with_reducible refine (impl_FindTeam.calls _ _ l0 a2 t244 _ ?side1 ?side2 A5.out).mono ?_); (case side1 => repeat (first | exact (Kd.C_below HR0.out HB.out) | (with_reducible refine Kd.C_alloc ?_ _) | (with_reducible refine Kd.C_drewN ?_ _) | (with_reducible refine Kd.C_drew ?_))); (case side2 => exact HC0.out); rintro e w26 ⟨rfl, hb⟩; refine ⟨_, rfl, ?_⟩; have n0_ := Aside0.mk (below_step (by repeat (first | (with_reducible first | exact HB.out | apply below_alloc | apply pw_below_drewN | apply below_drew1) | exact HB.out)) hb); clear HB; have HB := n0_; clear n0_; (try clear hb); (try clear hb2); (try clear hk); (try clear hi)))
   have n0_ := Aside0.mk (below_drew1 HB.out)
   clear HB
   have HB := n0_
   clear n0_
   have p246 : 0 ≤ (t243 : Int) := of_decide_eq_true (by first | (with_reducible assumption) | assumption)
   have q246 : t243 < (l0.length : Int) := of_decide_eq_true (by first | (with_reducible assumption) | assumption)
   obtain ⟨ad246, A246_5, c246_5, e246, hx246_0, hx246_1, hx246_2, hx246_3, hx246_4, hx246_5, hl246_5, hi246_5⟩ := at_T61 HR0.out t243 p246 q246
   have hw246_5 := hx246_5
   have hw246_4 := hx246_4
   have hw246_3 := hx246_3
   have hw246_2 := hx246_2
   have hw246_1 := hx246_1
   have hw246_0 := hx246_0
   cases e246
   replace hx246_0 := (HB.out.cell (World.block_lt_of_cell? w _ hx246_0)).trans hx246_0
   replace hx246_1 := (HB.out.cell (World.block_lt_of_cell? w _ hx246_1)).trans hx246_1
   replace hx246_2 := (HB.out.cell (World.block_lt_of_cell? w _ hx246_2)).trans hx246_2
   replace hx246_3 := (HB.out.cell (World.block_lt_of_cell? w _ hx246_3)).trans hx246_3
   replace hx246_4 := (HB.out.cell (World.block_lt_of_cell? w _ hx246_4)).trans hx246_4
   replace hx246_5 := (HB.out.cell (World.block_lt_of_cell? w _ hx246_5)).trans hx246_5
   have HR246_5 := Aside0.mk hi246_5
   have HC246_5 := Aside0.mk hl246_5
   clear hi246_5 hl246_5
   replace p246 := eq_true p246
   replace q246 := eq_true q246
   have p247 : 0 ≤ (t244 : Int) := of_decide_eq_true (by first | (with_reducible assumption) | assumption)
   have q247 : t244 < (l0.length : Int) := of_decide_eq_true (by first | (with_reducible assumption) | assumption)
   obtain ⟨ad247, A247_5, c247_5, e247, hx247_0, hx247_1, hx247_2, hx247_3, hx247_4, hx247_5, hl247_5, hi247_5⟩ := at_T61 HR0.out t244 p247 q247
   have hw247_5 := hx247_5
   have hw247_4 := hx247_4
   have hw247_3 := hx247_3
   have hw247_2 := hx247_2
   have hw247_1 := hx247_1
   have hw247_0 := hx247_0
   obtain rfl : ad246 = ad247 := (by injection e247)
   replace hx247_0 := (HB.out.cell (World.block_lt_of_cell? w _ hx247_0)).trans hx247_0
   replace hx247_1 := (HB.out.cell (World.block_lt_of_cell? w _ hx247_1)).trans hx247_1
   replace hx247_2 := (HB.out.cell (World.block_lt_of_cell? w _ hx247_2)).trans hx247_2
   replace hx247_3 := (HB.out.cell (World.block_lt_of_cell? w _ hx247_3)).trans hx247_3
   replace hx247_4 := (HB.out.cell (World.block_lt_of_cell? w _ hx247_4)).trans hx247_4
   replace hx247_5 := (HB.out.cell (World.block_lt_of_cell? w _ hx247_5)).trans hx247_5
   have HR247_5 := Aside0.mk hi247_5
   have HC247_5 := Aside0.mk hl247_5
   clear hi247_5 hl247_5
   replace p247 := eq_true p247
   replace q247 := eq_true q247
   refine start_ (n := 36) (S := fun w' => w'.cell? (ad246.add ((t243).toNat * 6)) = some (.int .i64 ((rd_T61 l0 t243).f0)) ∧ w'.cell? ⟨(ad246.add ((t243).toNat * 6)).block, (ad246.add ((t243).toNat * 6)).off + 1, none⟩ = some (.int .i64 ((rd_T61 l0 t243).f1)) ∧ w'.cell? ⟨(ad246.add ((t243).toNat * 6)).block, (ad246.add ((t243).toNat * 6)).off + 2, none⟩ = some (.int .i64 ((rd_T61 l0 t243).f2)) ∧ w'.cell? ⟨(ad246.add ((t243).toNat * 6)).block, (ad246.add ((t243).toNat * 6)).off + 3, none⟩ = some (.int .i64 ((rd_T61 l0 t243).f3)) ∧ w'.cell? ⟨(ad246.add ((t243).toNat * 6)).block, (ad246.add ((t243).toNat * 6)).off + 4, none⟩ = some (.int .i64 ((rd_T61 l0 t243).f4)) ∧ w'.cell? ⟨(ad246.add ((t243).toNat * 6)).block, (ad246.add ((t243).toNat * 6)).off + 5, none⟩ = some (.slice A246_5 ((rd_T61 l0 t243).f5).length c246_5) ∧ w'.cell? (ad246.add ((t244).toNat * 6)) = some (.int .i64 ((rd_T61 l0 t244).f0)) ∧ w'.cell? ⟨(ad246.add ((t244).toNat * 6)).block, (ad246.add ((t244).toNat * 6)).off + 1, none⟩ = some (.int .i64 ((rd_T61 l0 t244).f1)) ∧ w'.cell? ⟨(ad246.add ((t244).toNat * 6)).block, (ad246.add ((t244).toNat * 6)).off + 2, none⟩ = some (.int .i64 ((rd_T61 l0 t244).f2)) ∧ w'.cell? ⟨(ad246.add ((t244).toNat * 6)).block, (ad246.add ((t244).toNat * 6)).off + 3, none⟩ = some (.int .i64 ((rd_T61 l0 t244).f3)) ∧ w'.cell? ⟨(ad246.add ((t244).toNat * 6)).block, (ad246.add ((t244).toNat * 6)).off + 4, none⟩ = some (.int .i64 ((rd_T61 l0 t244).f4)) ∧ w'.cell? ⟨(ad246.add ((t244).toNat * 6)).block, (ad246.add ((t244).toNat * 6)).off + 5, none⟩ = some (.slice A247_5 ((rd_T61 l0 t244).f5).length c247_5)) (ds := []) (bv 36 0) (by kernel_rfl) rfl rfl ⟨((HB.out.cell (World.block_lt_of_cell? w _ hw246_0)).trans hw246_0), ((HB.out.cell (World.block_lt_of_cell? w _ hw246_1)).trans hw246_1), ((HB.out.cell (World.block_lt_of_cell? w _ hw246_2)).trans hw246_2), ((HB.out.cell (World.block_lt_of_cell? w _ hw246_3)).trans hw246_3), ((HB.out.cell (World.block_lt_of_cell? w _ hw246_4)).trans hw246_4), ((HB.out.cell (World.block_lt_of_cell? w _ hw246_5)).trans hw246_5), ((HB.out.cell (World.block_lt_of_cell? w _ hw247_0)).trans hw247_0), ((HB.out.cell (World.block_lt_of_cell? w _ hw247_1)).trans hw247_1), ((HB.out.cell (World.block_lt_of_cell? w _ hw247_2)).trans hw247_2), ((HB.out.cell (World.block_lt_of_cell? w _ hw247_3)).trans hw247_3), ((HB.out.cell (World.block_lt_of_cell? w _ hw247_4)).trans hw247_4), ((HB.out.cell (World.block_lt_of_cell? w _ hw247_5)).trans hw247_5)⟩ (fun hHeld => ?_); refine with_tabW impl_MayMeet.tab2 impl_MayMeet.bits2 (fun HT_ HW_ => ?_)
   generalize w26.drew = w27 at HB HR246_5 HR247_5 hx246_0 hx246_1 hx246_2 hx246_3 hx246_4 hx246_5 hx247_0 hx247_1 hx247_2 hx247_3 hx247_4 hx247_5 hHeld ⊢
   refine pv_ 36 0 15 1 rfl rfl HT_ ?_
   refine one_ (i := 1) (N := some 16) (bv 36 3) rfl rfl (one_of HT_.out (by kernel_rfl)) (by decide) (fun K hK => ?_)
   refine goes_ Try.func21 (by kernel_rfl) rfl #[.slice (some ad246) l0.length c0] (by rfl) rfl rfl (by (try simp only [List.map_toArray, List.map_cons, List.map_nil]); first | done | rfl | (simp only [List.length_drop, List.length_take]; rfl)) ?_
   with_reducible refine (impl_AreTeams.calls k _ _ l0 true _ ?side1 ?side2 A6.out).mono ?_
   (case side1 => repeat (first | exact (Kd.C_below HR0.out HB.out) | (with_reducible refine Kd.C_alloc ?_ _) | (with_reducible refine Kd.C_drewN ?_ _) | (with_reducible refine Kd.C_drew ?_)))
   (case side2 => exact HC0.out)
   rintro e w28 ⟨rfl, hb⟩
   refine ⟨_, rfl, ?_⟩
   have n0_ := Aside0.mk (below_step (by repeat (first | (with_reducible first | exact HB.out | apply below_alloc | apply pw_below_drewN | apply below_drew1) | exact HB.out)) hb)
   clear HB
   have HB := n0_
   clear n0_
   (try clear hb)
   (try clear hb2)
   (try clear hk)
   (try clear hi)
   refine hK.out _ _ ⟨((HB.out.cell (World.block_lt_of_cell? w _ hw246_0)).trans hw246_0), ((HB.out.cell (World.block_lt_of_cell? w _ hw246_1)).trans hw246_1), ((HB.out.cell (World.block_lt_of_cell? w _ hw246_2)).trans hw246_2), ((HB.out.cell (World.block_lt_of_cell? w _ hw246_3)).trans hw246_3), ((HB.out.cell (World.block_lt_of_cell? w _ hw246_4)).trans hw246_4), ((HB.out.cell (World.block_lt_of_cell? w _ hw246_5)).trans hw246_5), ((HB.out.cell (World.block_lt_of_cell? w _ hw247_0)).trans hw247_0), ((HB.out.cell (World.block_lt_of_cell? w _ hw247_1)).trans hw247_1), ((HB.out.cell (World.block_lt_of_cell? w _ hw247_2)).trans hw247_2), ((HB.out.cell (World.block_lt_of_cell? w _ hw247_3)).trans hw247_3), ((HB.out.cell (World.block_lt_of_cell? w _ hw247_4)).trans hw247_4), ((HB.out.cell (World.block_lt_of_cell? w _ hw247_5)).trans hw247_5)⟩ (fun hHeld => ?_)
   clear hK K
   refine nm_ 16 ?_
   refine pv_ 36 2 17 7 rfl rfl HT_ ?_; refine pv_ 36 3 18 15 rfl rfl HT_ ?_; refine pv_ 36 4 19 31 rfl rfl HT_ ?_; refine pv_ 36 5 20 63 rfl rfl HT_ ?_; refine pv_ 36 6 21 127 rfl rfl HT_ ?_; refine pv_ 36 7 22 255 rfl rfl HT_ ?_; refine pv_ 36 8 23 511 rfl rfl HT_ ?_; refine pv_ 36 9 24 1023 rfl rfl HT_ ?_; refine pv_ 36 10 25 2047 rfl rfl HT_ ?_; refine pv_ 36 11 26 4095 rfl rfl HT_ ?_; refine pv_ 36 12 27 8191 rfl rfl HT_ ?_; refine pv_ 36 13 28 16383 rfl rfl HT_ ?_; refine pv_ 36 14 29 32767 rfl rfl HT_ ?_; refine pv_ 36 15 30 65535 rfl rfl HT_ ?_; refine pv_ 36 16 31 131071 rfl rfl HT_ ?_; refine pv_ 36 17 32 262143 rfl rfl HT_ ?_; refine pv_ 36 18 33 524287 rfl rfl HT_ ?_; refine pv_ 36 19 34 1048575 rfl rfl HT_ ?_; refine pv_ 36 21 36 3145727 rfl rfl HT_ ?_; refine pv_ 36 22 37 7340031 rfl rfl HT_ ?_; refine pv_ 36 23 38 15728639 rfl rfl HT_ ?_; refine pv_ 36 24 39 32505855 rfl rfl HT_ ?_
   refine tv_ 36 20 35 33554431 rfl rfl HT_ HW_ hHeld (by rintro w' ⟨s0, s1, s2, s3, s4, s5, s6, s7, s8, s9, s10, s11⟩; go_simp; with_reducible rfl) ?_
   refine tv_ 36 25 40 67108863 rfl rfl HT_ HW_ hHeld (by rintro w' ⟨s0, s1, s2, s3, s4, s5, s6, s7, s8, s9, s10, s11⟩; go_simp; with_reducible rfl) ?_
   refine pv_ 36 26 41 134217727 rfl rfl HT_ ?_; refine pv_ 36 27 42 268435455 rfl rfl HT_ ?_; refine pv_ 36 28 43 536870911 rfl rfl HT_ ?_; refine pv_ 36 29 44 1073741823 rfl rfl HT_ ?_; refine pv_ 36 30 45 2147483647 rfl rfl HT_ ?_; refine pv_ 36 31 46 4294967295 rfl rfl HT_ ?_
   refine one_ (i := 32) (N := some 47) (bv 36 8589934591) rfl rfl (one_of HT_.out (by kernel_rfl)) (by decide) (fun K hK => ?_)
   refine goes_ Try.func23 (by kernel_rfl) rfl #[.slice (some ad246) l0.length c0, .int .i64 a1, .int .i64 a2] (by rfl) rfl rfl (by (try simp only [List.map_toArray, List.map_cons, List.map_nil]); first | done | rfl | (simp only [List.length_drop, List.length_take]; rfl)) ?_
   with_reducible refine (impl_HaveMet.calls k _ _ l0 a1 a2 t248 _ ?side1 ?side2 A24.out).mono ?_
   (case side1 => repeat (first | exact (Kd.C_below HR0.out HB.out) | (with_reducible refine Kd.C_alloc ?_ _) | (with_reducible refine Kd.C_drewN ?_ _) | (with_reducible refine Kd.C_drew ?_)))
   (case side2 => exact HC0.out)
   rintro e w29 ⟨rfl, hb⟩
   refine ⟨_, rfl, ?_⟩
   have n0_ := Aside0.mk (below_step (by repeat (first | (with_reducible first | exact HB.out | apply below_alloc | apply pw_below_drewN | apply below_drew1) | exact HB.out)) hb)
   clear HB
   have HB := n0_
   clear n0_
   (try clear hb)
   (try clear hb2)
   (try clear hk)
   (try clear hi)
   refine hK.out _ _ ⟨((HB.out.cell (World.block_lt_of_cell? w _ hw246_0)).trans hw246_0), ((HB.out.cell (World.block_lt_of_cell? w _ hw246_1)).trans hw246_1), ((HB.out.cell (World.block_lt_of_cell? w _ hw246_2)).trans hw246_2), ((HB.out.cell (World.block_lt_of_cell? w _ hw246_3)).trans hw246_3), ((HB.out.cell (World.block_lt_of_cell? w _ hw246_4)).trans hw246_4), ((HB.out.cell (World.block_lt_of_cell? w _ hw246_5)).trans hw246_5), ((HB.out.cell (World.block_lt_of_cell? w _ hw247_0)).trans hw247_0), ((HB.out.cell (World.block_lt_of_cell? w _ hw247_1)).trans hw247_1), ((HB.out.cell (World.block_lt_of_cell? w _ hw247_2)).trans hw247_2), ((HB.out.cell (World.block_lt_of_cell? w _ hw247_3)).trans hw247_3), ((HB.out.cell (World.block_lt_of_cell? w _ hw247_4)).trans hw247_4), ((HB.out.cell (World.block_lt_of_cell? w _ hw247_5)).trans hw247_5)⟩ (fun hHeld => ?_)
   clear hK K
   refine nm_ 47 ?_
   refine pv_ 36 33 48 17179869183 rfl rfl HT_ ?_; refine pv_ 36 34 49 34359738367 rfl rfl HT_ ?_; refine pv_ 36 35 6 68719476735 rfl rfl HT_ ?_
   refine done_ (done_of HT_.out (by kernel_rfl)) ?_
   try go_wp2
   all_goals (go_ret; exact ⟨by first | rfl | (simp [errW_none, errW_some] <;> rfl) | (simp [*, errW_none, errW_some] <;> rfl), by repeat (first | (with_reducible first | exact HB.out | apply below_alloc | apply pw_below_drewN | apply below_drew1) | exact HB.out)⟩)
  rw [if_pos c19] at H
  have c19b0 : (((rd_T61 l0 t243).f1) == ((rd_T61 l0 t244).f1)) = true := beq_iff_eq.mpr c19
  have c19b1 : (((rd_T61 l0 t243).f1) != ((rd_T61 l0 t244).f1)) = false := bne_eq_false_iff_eq.mpr c19
  clear c19
  obtain rfl := Option.some.inj H
  go_enter Try.func27, Try.ntmps27
  try go_wp2_with (first | ((with_reducible refine gate_callee (f := 18) rfl ?_); refine goesL_ (some 11) rfl rfl Try.func18 (by kernel_rfl) rfl #[.slice A0 l0.length c0, .int .i64 a1] rfl (by (try simp only [List.map_toArray, List.map_cons, List.map_nil]); first | done | rfl | (simp only [List.length_drop, List.length_take]; rfl)) ?_; (with_reducible refine (impl_FindTeam.calls _ _ l0 a1 t243 _ ?side1 ?side2 A4.out).mono ?_); (case side1 => repeat (first | exact HR0.out | (with_reducible refine Kd.C_alloc ?_ _) | (with_reducible refine Kd.C_drewN ?_ _) | (with_reducible refine Kd.C_drew ?_))); (case side2 => exact HC0.out); rintro e w20 ⟨rfl, hb⟩; refine ⟨_, rfl, ?_⟩; have n0_ := Aside0.mk (below_step (by repeat (first | (with_reducible first | exact HB.out | apply below_alloc | apply pw_below_drewN | apply below_drew1) | exact HB.out)) hb); clear HB; have HB := n0_; clear n0_; (try clear hb); (try clear hb2); (try clear hk); (try clear hi)) | ((with_reducible refine gate_callee (f := 18) rfl ?_); refine goesL_ (some 14) rfl rfl Try.func18 (by kernel_rfl) rfl #[.slice A0 l0.length c0, .int .i64 a2] rfl (by (try simp only [List.map_toArray, List.map_cons, List.map_nil]); first | done | rfl | (simp only [List.length_drop, List.length_take]; rfl)) ?_; (with_reducible refine (impl_FindTeam.calls _ _ l0 a2 t244 _ ?side1 ?side2 A5.out).mono ?_); (case side1 => repeat (first | exact (Kd.C_below HR0.out HB.out) | (with_reducible refine Kd.C_alloc ?_ _) | (with_reducible refine Kd.C_drewN ?_ _) | (with_reducible refine Kd.C_drew ?_))); (case side2 => exact HC0.out); rintro e w21 ⟨rfl, hb⟩; refine ⟨_, rfl, ?_⟩; have n0_ := Aside0.mk (below_step (by repeat (first | (with_reducible first | exact HB.out | apply below_alloc | apply pw_below_drewN | apply below_drew1) | exact HB.out)) hb); clear HB; have HB := n0_; clear n0_; (try clear hb); (try clear hb2); (try clear hk); (try clear hi)))
  have n0_ := Aside0.mk (below_drew1 HB.out)
  clear HB
  have HB := n0_
  clear n0_
  have p246 : 0 ≤ (t243 : Int) := of_decide_eq_true (by first | (with_reducible assumption) | assumption)
  have q246 : t243 < (l0.length : Int) := of_decide_eq_true (by first | (with_reducible assumption) | assumption)
  obtain ⟨ad246, A246_5, c246_5, e246, hx246_0, hx246_1, hx246_2, hx246_3, hx246_4, hx246_5, hl246_5, hi246_5⟩ := at_T61 HR0.out t243 p246 q246
  have hw246_5 := hx246_5
  have hw246_4 := hx246_4
  have hw246_3 := hx246_3
  have hw246_2 := hx246_2
  have hw246_1 := hx246_1
  have hw246_0 := hx246_0
  cases e246
  replace hx246_0 := (HB.out.cell (World.block_lt_of_cell? w _ hx246_0)).trans hx246_0
  replace hx246_1 := (HB.out.cell (World.block_lt_of_cell? w _ hx246_1)).trans hx246_1
  replace hx246_2 := (HB.out.cell (World.block_lt_of_cell? w _ hx246_2)).trans hx246_2
  replace hx246_3 := (HB.out.cell (World.block_lt_of_cell? w _ hx246_3)).trans hx246_3
  replace hx246_4 := (HB.out.cell (World.block_lt_of_cell? w _ hx246_4)).trans hx246_4
  replace hx246_5 := (HB.out.cell (World.block_lt_of_cell? w _ hx246_5)).trans hx246_5
  have HR246_5 := Aside0.mk hi246_5
  have HC246_5 := Aside0.mk hl246_5
  clear hi246_5 hl246_5
  replace p246 := eq_true p246
  replace q246 := eq_true q246
  have p247 : 0 ≤ (t244 : Int) := of_decide_eq_true (by first | (with_reducible assumption) | assumption)
  have q247 : t244 < (l0.length : Int) := of_decide_eq_true (by first | (with_reducible assumption) | assumption)
  obtain ⟨ad247, A247_5, c247_5, e247, hx247_0, hx247_1, hx247_2, hx247_3, hx247_4, hx247_5, hl247_5, hi247_5⟩ := at_T61 HR0.out t244 p247 q247
  have hw247_5 := hx247_5
  have hw247_4 := hx247_4
  have hw247_3 := hx247_3
  have hw247_2 := hx247_2
  have hw247_1 := hx247_1
  have hw247_0 := hx247_0
  obtain rfl : ad246 = ad247 := (by injection e247)
  replace hx247_0 := (HB.out.cell (World.block_lt_of_cell? w _ hx247_0)).trans hx247_0
  replace hx247_1 := (HB.out.cell (World.block_lt_of_cell? w _ hx247_1)).trans hx247_1
  replace hx247_2 := (HB.out.cell (World.block_lt_of_cell? w _ hx247_2)).trans hx247_2
  replace hx247_3 := (HB.out.cell (World.block_lt_of_cell? w _ hx247_3)).trans hx247_3
  replace hx247_4 := (HB.out.cell (World.block_lt_of_cell? w _ hx247_4)).trans hx247_4
  replace hx247_5 := (HB.out.cell (World.block_lt_of_cell? w _ hx247_5)).trans hx247_5
  have HR247_5 := Aside0.mk hi247_5
  have HC247_5 := Aside0.mk hl247_5
  clear hi247_5 hl247_5
  replace p247 := eq_true p247
  replace q247 := eq_true q247
  refine start_ (n := 36) (S := fun w' => w'.cell? (ad246.add ((t243).toNat * 6)) = some (.int .i64 ((rd_T61 l0 t243).f0)) ∧ w'.cell? ⟨(ad246.add ((t243).toNat * 6)).block, (ad246.add ((t243).toNat * 6)).off + 1, none⟩ = some (.int .i64 ((rd_T61 l0 t243).f1)) ∧ w'.cell? ⟨(ad246.add ((t243).toNat * 6)).block, (ad246.add ((t243).toNat * 6)).off + 2, none⟩ = some (.int .i64 ((rd_T61 l0 t243).f2)) ∧ w'.cell? ⟨(ad246.add ((t243).toNat * 6)).block, (ad246.add ((t243).toNat * 6)).off + 3, none⟩ = some (.int .i64 ((rd_T61 l0 t243).f3)) ∧ w'.cell? ⟨(ad246.add ((t243).toNat * 6)).block, (ad246.add ((t243).toNat * 6)).off + 4, none⟩ = some (.int .i64 ((rd_T61 l0 t243).f4)) ∧ w'.cell? ⟨(ad246.add ((t243).toNat * 6)).block, (ad246.add ((t243).toNat * 6)).off + 5, none⟩ = some (.slice A246_5 ((rd_T61 l0 t243).f5).length c246_5) ∧ w'.cell? (ad246.add ((t244).toNat * 6)) = some (.int .i64 ((rd_T61 l0 t244).f0)) ∧ w'.cell? ⟨(ad246.add ((t244).toNat * 6)).block, (ad246.add ((t244).toNat * 6)).off + 1, none⟩ = some (.int .i64 ((rd_T61 l0 t244).f1)) ∧ w'.cell? ⟨(ad246.add ((t244).toNat * 6)).block, (ad246.add ((t244).toNat * 6)).off + 2, none⟩ = some (.int .i64 ((rd_T61 l0 t244).f2)) ∧ w'.cell? ⟨(ad246.add ((t244).toNat * 6)).block, (ad246.add ((t244).toNat * 6)).off + 3, none⟩ = some (.int .i64 ((rd_T61 l0 t244).f3)) ∧ w'.cell? ⟨(ad246.add ((t244).toNat * 6)).block, (ad246.add ((t244).toNat * 6)).off + 4, none⟩ = some (.int .i64 ((rd_T61 l0 t244).f4)) ∧ w'.cell? ⟨(ad246.add ((t244).toNat * 6)).block, (ad246.add ((t244).toNat * 6)).off + 5, none⟩ = some (.slice A247_5 ((rd_T61 l0 t244).f5).length c247_5)) (ds := []) (bv 36 0) (by kernel_rfl) rfl rfl ⟨((HB.out.cell (World.block_lt_of_cell? w _ hw246_0)).trans hw246_0), ((HB.out.cell (World.block_lt_of_cell? w _ hw246_1)).trans hw246_1), ((HB.out.cell (World.block_lt_of_cell? w _ hw246_2)).trans hw246_2), ((HB.out.cell (World.block_lt_of_cell? w _ hw246_3)).trans hw246_3), ((HB.out.cell (World.block_lt_of_cell? w _ hw246_4)).trans hw246_4), ((HB.out.cell (World.block_lt_of_cell? w _ hw246_5)).trans hw246_5), ((HB.out.cell (World.block_lt_of_cell? w _ hw247_0)).trans hw247_0), ((HB.out.cell (World.block_lt_of_cell? w _ hw247_1)).trans hw247_1), ((HB.out.cell (World.block_lt_of_cell? w _ hw247_2)).trans hw247_2), ((HB.out.cell (World.block_lt_of_cell? w _ hw247_3)).trans hw247_3), ((HB.out.cell (World.block_lt_of_cell? w _ hw247_4)).trans hw247_4), ((HB.out.cell (World.block_lt_of_cell? w _ hw247_5)).trans hw247_5)⟩ (fun hHeld => ?_); refine with_tabW impl_MayMeet.tab2 impl_MayMeet.bits2 (fun HT_ HW_ => ?_)
  generalize w21.drew = w22 at HB HR246_5 HR247_5 hx246_0 hx246_1 hx246_2 hx246_3 hx246_4 hx246_5 hx247_0 hx247_1 hx247_2 hx247_3 hx247_4 hx247_5 hHeld ⊢
  refine pv_ 36 0 15 1 rfl rfl HT_ ?_
  refine one_ (i := 1) (N := some 16) (bv 36 3) rfl rfl (one_of HT_.out (by kernel_rfl)) (by decide) (fun K hK => ?_)
  refine goes_ Try.func21 (by kernel_rfl) rfl #[.slice (some ad246) l0.length c0] (by rfl) rfl rfl (by (try simp only [List.map_toArray, List.map_cons, List.map_nil]); first | done | rfl | (simp only [List.length_drop, List.length_take]; rfl)) ?_
  with_reducible refine (impl_AreTeams.calls k _ _ l0 true _ ?side1 ?side2 A6.out).mono ?_
  (case side1 => repeat (first | exact (Kd.C_below HR0.out HB.out) | (with_reducible refine Kd.C_alloc ?_ _) | (with_reducible refine Kd.C_drewN ?_ _) | (with_reducible refine Kd.C_drew ?_)))
  (case side2 => exact HC0.out)
  rintro e w23 ⟨rfl, hb⟩
  refine ⟨_, rfl, ?_⟩
  have n0_ := Aside0.mk (below_step (by repeat (first | (with_reducible first | exact HB.out | apply below_alloc | apply pw_below_drewN | apply below_drew1) | exact HB.out)) hb)
  clear HB
  have HB := n0_
  clear n0_
  (try clear hb)
  (try clear hb2)
  (try clear hk)
  (try clear hi)
  refine hK.out _ _ ⟨((HB.out.cell (World.block_lt_of_cell? w _ hw246_0)).trans hw246_0), ((HB.out.cell (World.block_lt_of_cell? w _ hw246_1)).trans hw246_1), ((HB.out.cell (World.block_lt_of_cell? w _ hw246_2)).trans hw246_2), ((HB.out.cell (World.block_lt_of_cell? w _ hw246_3)).trans hw246_3), ((HB.out.cell (World.block_lt_of_cell? w _ hw246_4)).trans hw246_4), ((HB.out.cell (World.block_lt_of_cell? w _ hw246_5)).trans hw246_5), ((HB.out.cell (World.block_lt_of_cell? w _ hw247_0)).trans hw247_0), ((HB.out.cell (World.block_lt_of_cell? w _ hw247_1)).trans hw247_1), ((HB.out.cell (World.block_lt_of_cell? w _ hw247_2)).trans hw247_2), ((HB.out.cell (World.block_lt_of_cell? w _ hw247_3)).trans hw247_3), ((HB.out.cell (World.block_lt_of_cell? w _ hw247_4)).trans hw247_4), ((HB.out.cell (World.block_lt_of_cell? w _ hw247_5)).trans hw247_5)⟩ (fun hHeld => ?_)
  clear hK K
  refine nm_ 16 ?_
  refine pv_ 36 2 17 7 rfl rfl HT_ ?_; refine pv_ 36 3 18 15 rfl rfl HT_ ?_; refine pv_ 36 4 19 31 rfl rfl HT_ ?_; refine pv_ 36 5 20 63 rfl rfl HT_ ?_; refine pv_ 36 6 21 127 rfl rfl HT_ ?_; refine pv_ 36 7 22 255 rfl rfl HT_ ?_; refine pv_ 36 8 23 511 rfl rfl HT_ ?_; refine pv_ 36 9 24 1023 rfl rfl HT_ ?_; refine pv_ 36 10 25 2047 rfl rfl HT_ ?_; refine pv_ 36 11 26 4095 rfl rfl HT_ ?_; refine pv_ 36 12 27 8191 rfl rfl HT_ ?_; refine pv_ 36 13 28 16383 rfl rfl HT_ ?_; refine pv_ 36 14 29 32767 rfl rfl HT_ ?_; refine pv_ 36 15 30 65535 rfl rfl HT_ ?_; refine pv_ 36 16 31 131071 rfl rfl HT_ ?_; refine pv_ 36 17 32 262143 rfl rfl HT_ ?_; refine pv_ 36 18 33 524287 rfl rfl HT_ ?_; refine pv_ 36 19 34 1048575 rfl rfl HT_ ?_; refine pv_ 36 21 36 3145727 rfl rfl HT_ ?_; refine pv_ 36 22 37 7340031 rfl rfl HT_ ?_; refine pv_ 36 23 38 15728639 rfl rfl HT_ ?_; refine pv_ 36 24 39 32505855 rfl rfl HT_ ?_
  refine tv_ 36 20 35 33554431 rfl rfl HT_ HW_ hHeld (by rintro w' ⟨s0, s1, s2, s3, s4, s5, s6, s7, s8, s9, s10, s11⟩; go_simp; with_reducible rfl) ?_
  refine tv_ 36 25 40 67108863 rfl rfl HT_ HW_ hHeld (by rintro w' ⟨s0, s1, s2, s3, s4, s5, s6, s7, s8, s9, s10, s11⟩; go_simp; with_reducible rfl) ?_
  refine pv_ 36 26 41 134217727 rfl rfl HT_ ?_; refine pv_ 36 27 42 268435455 rfl rfl HT_ ?_; refine pv_ 36 28 43 536870911 rfl rfl HT_ ?_; refine pu_ 36 29 44 1073741823 rfl rfl HT_ ?_; refine pu_ 36 30 45 2147483647 rfl rfl HT_ ?_; refine pu_ 36 31 46 4294967295 rfl rfl HT_ ?_; refine pu_ 36 32 47 8589934591 rfl rfl HT_ ?_; refine pu_ 36 33 48 17179869183 rfl rfl HT_ ?_; refine pv_ 36 34 49 34359738367 rfl rfl HT_ ?_; refine pv_ 36 35 6 68719476735 rfl rfl HT_ ?_
  refine done_ (done_of HT_.out (by kernel_rfl)) ?_
  try go_wp2
  all_goals (go_ret; exact ⟨by first | rfl | (simp [errW_none, errW_some] <;> rfl) | (simp [*, errW_none, errW_some] <;> rfl), by repeat (first | (with_reducible first | exact HB.out | apply below_alloc | apply pw_below_drewN | apply below_drew1) | exact HB.out)⟩)
 rw [if_pos c10] at H
 have c10b0 : (t243 == t244) = true := beq_iff_eq.mpr c10
 have c10b1 : (t243 != t244) = false := bne_eq_false_iff_eq.mpr c10
 clear c10
 obtain rfl := Option.some.inj H
 go_enter Try.func27, Try.ntmps27
 try go_wp2_with (first | ((with_reducible refine gate_callee (f := 18) rfl ?_); refine goesL_ (some 11) rfl rfl Try.func18 (by kernel_rfl) rfl #[.slice A0 l0.length c0, .int .i64 a1] rfl (by (try simp only [List.map_toArray, List.map_cons, List.map_nil]); first | done | rfl | (simp only [List.length_drop, List.length_take]; rfl)) ?_; (with_reducible refine (impl_FindTeam.calls _ _ l0 a1 t243 _ ?side1 ?side2 A4.out).mono ?_); (case side1 => repeat (first | exact HR0.out | (with_reducible refine Kd.C_alloc ?_ _) | (with_reducible refine Kd.C_drewN ?_ _) | (with_reducible refine Kd.C_drew ?_))); (case side2 => exact HC0.out); rintro e w11 ⟨rfl, hb⟩; refine ⟨_, rfl, ?_⟩; have n0_ := Aside0.mk (below_step (by repeat (first | (with_reducible first | exact HB.out | apply below_alloc | apply pw_below_drewN | apply below_drew1) | exact HB.out)) hb); clear HB; have HB := n0_; clear n0_; (try clear hb); (try clear hb2); (try clear hk); (try clear hi)) | ((with_reducible refine gate_callee (f := 18) rfl ?_); refine goesL_ (some 14) rfl rfl Try.func18 (by kernel_rfl) rfl #[.slice A0 l0.length c0, .int .i64 a2] rfl (by (try simp only [List.map_toArray, List.map_cons, List.map_nil]); first | done | rfl | (simp only [List.length_drop, List.length_take]; rfl)) ?_; (with_reducible refine (impl_FindTeam.calls _ _ l0 a2 t244 _ ?side1 ?side2 A5.out).mono ?_); (case side1 => repeat (first | exact (Kd.C_below HR0.out HB.out) | (with_reducible refine Kd.C_alloc ?_ _) | (with_reducible refine Kd.C_drewN ?_ _) | (with_reducible refine Kd.C_drew ?_))); (case side2 => exact HC0.out); rintro e w12 ⟨rfl, hb⟩; refine ⟨_, rfl, ?_⟩; have n0_ := Aside0.mk (below_step (by repeat (first | (with_reducible first | exact HB.out | apply below_alloc | apply pw_below_drewN | apply below_drew1) | exact HB.out)) hb); clear HB; have HB := n0_; clear n0_; (try clear hb); (try clear hb2); (try clear hk); (try clear hi)))
 have n0_ := Aside0.mk (below_drew1 HB.out)
 clear HB
 have HB := n0_
 clear n0_
 refine start_ (n := 36) (S := fun w' => True) (ds := []) (bv 36 0) (by kernel_rfl) rfl rfl trivial (fun hHeld => ?_); refine with_tabW impl_MayMeet.tab2 impl_MayMeet.bits2 (fun HT_ HW_ => ?_)
 generalize w12.drew = w13 at HB hHeld ⊢
 refine pv_ 36 0 15 1 rfl rfl HT_ ?_
 refine one_ (i := 1) (N := some 16) (bv 36 3) rfl rfl (one_of HT_.out (by kernel_rfl)) (by decide) (fun K hK => ?_)
 refine goes_ Try.func21 (by kernel_rfl) rfl #[.slice A0 l0.length c0] (by rfl) rfl rfl (by (try simp only [List.map_toArray, List.map_cons, List.map_nil]); first | done | rfl | (simp only [List.length_drop, List.length_take]; rfl)) ?_
 with_reducible refine (impl_AreTeams.calls k _ _ l0 true _ ?side1 ?side2 A6.out).mono ?_
 (case side1 => repeat (first | exact (Kd.C_below HR0.out HB.out) | (with_reducible refine Kd.C_alloc ?_ _) | (with_reducible refine Kd.C_drewN ?_ _) | (with_reducible refine Kd.C_drew ?_)))
 (case side2 => exact HC0.out)
 rintro e w14 ⟨rfl, hb⟩
 refine ⟨_, rfl, ?_⟩
 have n0_ := Aside0.mk (below_step (by repeat (first | (with_reducible first | exact HB.out | apply below_alloc | apply pw_below_drewN | apply below_drew1) | exact HB.out)) hb)
 clear HB
 have HB := n0_
 clear n0_
 (try clear hb)
 (try clear hb2)
 (try clear hk)
 (try clear hi)
 refine hK.out _ _ trivial (fun hHeld => ?_)
 clear hK K
 refine nm_ 16 ?_
 refine pv_ 36 2 17 7 rfl rfl HT_ ?_; refine pv_ 36 3 18 15 rfl rfl HT_ ?_; refine pv_ 36 4 19 31 rfl rfl HT_ ?_; refine pv_ 36 5 20 63 rfl rfl HT_ ?_; refine pv_ 36 6 21 127 rfl rfl HT_ ?_; refine pv_ 36 7 22 255 rfl rfl HT_ ?_; refine pv_ 36 8 23 511 rfl rfl HT_ ?_; refine pv_ 36 9 24 1023 rfl rfl HT_ ?_; refine pv_ 36 10 25 2047 rfl rfl HT_ ?_; refine pv_ 36 11 26 4095 rfl rfl HT_ ?_; refine pv_ 36 12 27 8191 rfl rfl HT_ ?_; refine pv_ 36 13 28 16383 rfl rfl HT_ ?_; refine pv_ 36 14 29 32767 rfl rfl HT_ ?_; refine pv_ 36 15 30 65535 rfl rfl HT_ ?_; refine pu_ 36 16 31 131071 rfl rfl HT_ ?_; refine pu_ 36 17 32 262143 rfl rfl HT_ ?_; refine pu_ 36 18 33 524287 rfl rfl HT_ ?_; refine pu_ 36 19 34 1048575 rfl rfl HT_ ?_; refine pu_ 36 20 35 2097151 rfl rfl HT_ ?_; refine pu_ 36 21 36 4194303 rfl rfl HT_ ?_; refine pu_ 36 22 37 8388607 rfl rfl HT_ ?_; refine pu_ 36 23 38 16777215 rfl rfl HT_ ?_
 refine pu_ 36 24 39 33554431 rfl rfl HT_ ?_; refine pu_ 36 25 40 67108863 rfl rfl HT_ ?_; refine pu_ 36 26 41 134217727 rfl rfl HT_ ?_; refine pv_ 36 27 42 268435455 rfl rfl HT_ ?_; refine pv_ 36 28 43 536870911 rfl rfl HT_ ?_; refine pu_ 36 29 44 1073741823 rfl rfl HT_ ?_; refine pu_ 36 30 45 2147483647 rfl rfl HT_ ?_; refine pu_ 36 31 46 4294967295 rfl rfl HT_ ?_; refine pu_ 36 32 47 8589934591 rfl rfl HT_ ?_; refine pu_ 36 33 48 17179869183 rfl rfl HT_ ?_; refine pv_ 36 34 49 34359738367 rfl rfl HT_ ?_; refine pv_ 36 35 6 68719476735 rfl rfl HT_ ?_
 refine done_ (done_of HT_.out (by kernel_rfl)) ?_
 try go_wp2
 all_goals (go_ret; exact ⟨by first | rfl | (simp [errW_none, errW_some] <;> rfl) | (simp [*, errW_none, errW_some] <;> rfl), by repeat (first | (with_reducible first | exact HB.out | apply below_alloc | apply pw_below_drewN | apply below_drew1) | exact HB.out)⟩)
end Go.Proofs.Ytiimiogpiflkdaa.A

-- Printed for this claim by a program of the session's (the kit's print, with contracts of our own taken in). Lean checks it.
-- squeezed
namespace Go.Proofs.Ytiimiogpiflkdaa.A
open Go.RowKit Go.Proofs.YtiimiogpiflkdaaW.PrintWords Go.Proofs.YtiimiogpiflkdaaW.PrintLast Go.Proofs.YtiimiogpiflkdaaW.PrintMore
attribute [local go_sem] max2_int min2_int max_two min_two max_three min_three max_four min_four   -- for this text's walks alone
set_option linter.unusedVariables false
set_option linter.unusedSimpArgs false

/-! ### laws_FnExactMayMeet: function 7 -/
def laws_FnExactMayMeet.f (k : Nat) (l0 : List (S64)) (a1 : Int) (a2 : Int) : Option (Bool) := (laws_szTeamS.f k l0 1048576).bind fun t249 => (if t249 < 0 then (some true) else ((laws_toTeamS.f k l0).bind fun t250 => ((spec_MayMeet.f k t250 a1 a2).bind fun t253 => ((laws_toTeamS.f k l0).bind fun t254 => ((impl_MayMeet.f k t254 a1 a2).bind fun t257 => (if (t257 != t253) = true then (some false) else ((laws_toTeamS.f k l0).bind fun t258 => ((laws_eqTeamS.f k t254 t258).bind fun t261 => (if t261 = true then (some true) else (some false))))))))))
theorem laws_FnExactMayMeet.mono : ∀ a0 a1 a2 k, LeO (laws_FnExactMayMeet.f k a0 a1 a2) (laws_FnExactMayMeet.f (k + 1) a0 a1 a2) := by
  intro a0 a1 a2 k
  unfold laws_FnExactMayMeet.f
  repeat' first
      | (with_reducible exact impl_MayMeet.mono _ _ _ _)
      | (with_reducible exact laws_eqTeamS.mono _ _ _)
      | (with_reducible exact laws_szTeamS.mono _ _ _)
      | (with_reducible exact laws_toTeamS.mono _ _)
      | (with_reducible exact spec_MayMeet.mono _ _ _ _)
      | (with_reducible exact LeO.refl _)
      | (with_reducible exact LeO.none _)
      | (with_reducible refine LeO.ite ?_ ?_)
      | (with_reducible refine LeO.bind ?_ (fun _ => ?_))
      | exact impl_MayMeet.mono _ _ _ _
      | exact laws_eqTeamS.mono _ _ _
      | exact laws_szTeamS.mono _ _ _
      | exact laws_toTeamS.mono _ _
      | exact spec_MayMeet.mono _ _ _ _
      | exact LeO.none _
      | refine LeO.ite ?_ ?_
      | refine LeO.bind ?_ (fun _ => ?_)
set_option maxHeartbeats 8000000 in
set_option maxRecDepth 100000 in
theorem laws_FnExactMayMeet.calls (k : Nat) (A0 : Option Addr) (c0 : Nat) (l0 : List (S64)) (a1 : Int) (a2 : Int) (r : Bool) (w : World) (hr0 : Kd.C k64 w A0 l0.length l0) (hc0 : l0.length ≤ c0) (h : laws_FnExactMayMeet.f k l0 a1 a2 = some r) :
  Calls Try.prog 7 #[.slice A0 l0.length c0, .int .i64 a1, .int .i64 a2] w fun e w' => e = .returned (.bool r) ∧ Below w.heap.size w w' := by
 have HR0 := Aside0.mk hr0
 have HC0 := Aside0.mk hc0
 clear hr0 hc0
 have HB := Aside0.mk (Below.refl w.heap.size w)
 have H : ((laws_szTeamS.f k l0 1048576).bind fun t249 => (if t249 < 0 then (some true) else ((laws_toTeamS.f k l0).bind fun t250 => ((spec_MayMeet.f k t250 a1 a2).bind fun t253 => ((laws_toTeamS.f k l0).bind fun t254 => ((impl_MayMeet.f k t254 a1 a2).bind fun t257 => (if (t257 != t253) = true then (some false) else ((laws_toTeamS.f k l0).bind fun t258 => ((laws_eqTeamS.f k t254 t258).bind fun t261 => (if t261 = true then (some true) else (some false))))))))))) = some r := h
 clear h
 replace H := Option.bind_eq_some_iff.mp H
 obtain ⟨t249, A40, H⟩ := H
 replace H : (if t249 < 0 then (some true) else ((laws_toTeamS.f k l0).bind fun t250 => ((spec_MayMeet.f k t250 a1 a2).bind fun t253 => ((laws_toTeamS.f k l0).bind fun t254 => ((impl_MayMeet.f k t254 a1 a2).bind fun t257 => (if (t257 != t253) = true then (some false) else ((laws_toTeamS.f k l0).bind fun t258 => ((laws_eqTeamS.f k t254 t258).bind fun t261 => (if t261 = true then (some true) else (some false)))))))))) = some r := H
 have A4 := Aside0.mk A40
 clear A40
 by_cases c5 : t249 < 0
 ·
  rw [if_pos c5] at H
  have c5b0 : decide (t249 < 0) = true := decide_eq_true c5
  clear c5
  obtain rfl := Option.some.inj H
  go_enter Try.func7, Try.ntmps7
  go_wp2_with (first | ((with_reducible refine gate_callee (f := 15) rfl ?_); refine goesL_ (some 13) rfl rfl Try.func15 (by kernel_rfl) rfl #[.slice A0 l0.length c0, .int .i64 1048576] rfl (by (try simp only [List.map_toArray, List.map_cons, List.map_nil]); first | done | rfl | (simp only [List.length_drop, List.length_take]; rfl)) ?_; (with_reducible refine (laws_szTeamS.calls k _ _ l0 1048576 t249 _ ?side1 ?side2 A4.out).mono ?_); (case side1 => repeat (first | exact HR0.out | (with_reducible refine Kd.C_alloc ?_ _) | (with_reducible refine Kd.C_drewN ?_ _) | (with_reducible refine Kd.C_drew ?_))); (case side2 => exact HC0.out); rintro e w6 ⟨rfl, hb⟩; refine ⟨_, rfl, ?_⟩; have n0_ := Aside0.mk (below_step (by repeat (first | (with_reducible first | exact HB.out | apply below_alloc | apply pw_below_drewN | apply below_drew1) | exact HB.out)) hb); clear HB; have HB := n0_; clear n0_; (try clear hb); (try clear hb2); (try clear hk); (try clear hi)))
  go_ret
  exact ⟨by first | rfl | (simp [errW_none, errW_some] <;> rfl) | (simp [*, errW_none, errW_some] <;> rfl), by repeat (first | (with_reducible first | exact HB.out | apply below_alloc | apply pw_below_drewN | apply below_drew1) | exact HB.out)⟩
 ·
  rw [if_neg c5] at H
  have c5b0 : decide (t249 < 0) = false := decide_eq_false c5
  clear c5
  replace H := Option.bind_eq_some_iff.mp H
  obtain ⟨t250, A70, H⟩ := H
  replace H : ((spec_MayMeet.f k t250 a1 a2).bind fun t253 => ((laws_toTeamS.f k l0).bind fun t254 => ((impl_MayMeet.f k t254 a1 a2).bind fun t257 => (if (t257 != t253) = true then (some false) else ((laws_toTeamS.f k l0).bind fun t258 => ((laws_eqTeamS.f k t254 t258).bind fun t261 => (if t261 = true then (some true) else (some false)))))))) = some r := H
  have A7 := Aside0.mk A70
  clear A70
  replace H := Option.bind_eq_some_iff.mp H
  obtain ⟨t253, A80, H⟩ := H
  replace H : ((laws_toTeamS.f k l0).bind fun t254 => ((impl_MayMeet.f k t254 a1 a2).bind fun t257 => (if (t257 != t253) = true then (some false) else ((laws_toTeamS.f k l0).bind fun t258 => ((laws_eqTeamS.f k t254 t258).bind fun t261 => (if t261 = true then (some true) else (some false))))))) = some r := H
  have A8 := Aside0.mk A80
  clear A80
  replace H := Option.bind_eq_some_iff.mp H
  obtain ⟨t254, A90, H⟩ := H
  replace H : ((impl_MayMeet.f k t254 a1 a2).bind fun t257 => (if (t257 != t253) = true then (some false) else ((laws_toTeamS.f k l0).bind fun t258 => ((laws_eqTeamS.f k t254 t258).bind fun t261 => (if t261 = true then (some true) else (some false)))))) = some r := H
  have A9 := Aside0.mk A90
  clear A90
  replace H := Option.bind_eq_some_iff.mp H
  obtain ⟨t257, A100, H⟩ := H
  replace H : (if (t257 != t253) = true then (some false) else ((laws_toTeamS.f k l0).bind fun t258 => ((laws_eqTeamS.f k t254 t258).bind fun t261 => (if t261 = true then (some true) else (some false))))) = some r := H
  have A10 := Aside0.mk A100
  clear A100
  by_cases c11 : (t257 != t253) = true
  ·
   rw [if_pos c11] at H
   have c11b0 : (t257 != t253) = true := c11
   (try (have c11b1 : decide (t257 = t253) = false := by simpa using c11))
   (try (have c11b2 : (t257 == t253) = false := by simpa using c11))
   (try (have c11b3 : ¬ (t257 = t253) := by simpa using c11))
   clear c11
   obtain rfl := Option.some.inj H
   go_enter Try.func7, Try.ntmps7
   go_wp2_with (first | ((with_reducible refine gate_callee (f := 15) rfl ?_); refine goesL_ (some 13) rfl rfl Try.func15 (by kernel_rfl) rfl #[.slice A0 l0.length c0, .int .i64 1048576] rfl (by (try simp only [List.map_toArray, List.map_cons, List.map_nil]); first | done | rfl | (simp only [List.length_drop, List.length_take]; rfl)) ?_; (with_reducible refine (laws_szTeamS.calls k _ _ l0 1048576 t249 _ ?side1 ?side2 A4.out).mono ?_); (case side1 => repeat (first | exact HR0.out | (with_reducible refine Kd.C_alloc ?_ _) | (with_reducible refine Kd.C_drewN ?_ _) | (with_reducible refine Kd.C_drew ?_))); (case side2 => exact HC0.out); rintro e w12 ⟨rfl, hb⟩; refine ⟨_, rfl, ?_⟩; have n0_ := Aside0.mk (below_step (by repeat (first | (with_reducible first | exact HB.out | apply below_alloc | apply pw_below_drewN | apply below_drew1) | exact HB.out)) hb); clear HB; have HB := n0_; clear n0_; (try clear hb); (try clear hb2); (try clear hk); (try clear hi)) | ((with_reducible refine gate_callee (f := 17) rfl ?_); refine goesL_ (some 17) rfl rfl Try.func17 (by kernel_rfl) rfl #[.slice A0 l0.length c0] rfl (by (try simp only [List.map_toArray, List.map_cons, List.map_nil]); first | done | rfl | (simp only [List.length_drop, List.length_take]; rfl)) ?_; (with_reducible refine (laws_toTeamS.calls k _ _ l0 t250 _ ?side1 ?side2 A7.out).mono ?_); (case side1 => repeat (first | exact (Kd.C_below HR0.out HB.out) | (with_reducible refine Kd.C_alloc ?_ _) | (with_reducible refine Kd.C_drewN ?_ _) | (with_reducible refine Kd.C_drew ?_))); (case side2 => exact HC0.out); rintro e w13 ⟨v251, rfl, ho0, hb⟩; refine ⟨_, rfl, ?_⟩; have n0_ := Aside0.mk (Kd.S_lower ho0 (below_size (by repeat (first | (with_reducible first | exact HB.out | apply below_alloc | apply pw_below_drewN | apply below_drew1) | exact HB.out)))); have n1_ := Aside0.mk (below_step (by repeat (first | (with_reducible first | exact HB.out | apply below_alloc | apply pw_below_drewN | apply below_drew1) | exact HB.out)) hb); clear HB; have HO252 := n0_; have HB := n1_; clear n0_ n1_; (try clear hb); (try clear hb2); (try clear hk); (try clear hi); (try clear ho0); obtain ⟨Ao14, co14, eo14⟩ := Kd.S_slice HO252.out; subst eo14) | ((with_reducible refine gate_callee (f := 26) rfl ?_); refine goesL_ (some 20) rfl rfl Try.func26 (by kernel_rfl) rfl #[.slice Ao14 t250.length co14, .int .i64 a1, .int .i64 a2] rfl (by (try simp only [List.map_toArray, List.map_cons, List.map_nil]); first | done | rfl | (simp only [List.length_drop, List.length_take]; rfl)) ?_; (with_reducible refine (spec_MayMeet.calls k _ _ t250 a1 a2 t253 _ ?side1 ?side2 A8.out).mono ?_); (case side1 => repeat (first | exact (Kd.S_reads' HO252.out).2.2 | (with_reducible refine Kd.C_alloc ?_ _) | (with_reducible refine Kd.C_drewN ?_ _) | (with_reducible refine Kd.C_drew ?_))); (case side2 => exact (Kd.S_reads' HO252.out).2.1); rintro e w15 ⟨rfl, hb⟩; refine ⟨_, rfl, ?_⟩; have n0_ := Aside0.mk (Kd.S_below (by (with_reducible repeat (first | apply Kd.S_alloc | apply Kd.S_drewN | apply Kd.S_drew)); exact HO252.out) hb); have n1_ := Aside0.mk (below_step (by repeat (first | (with_reducible first | exact HB.out | apply below_alloc | apply pw_below_drewN | apply below_drew1) | exact HB.out)) hb); clear HO252; clear HB; have HO252 := n0_; have HB := n1_; clear n0_ n1_; (try clear hb); (try clear hb2); (try clear hk); (try clear hi)) | ((with_reducible refine gate_callee (f := 17) rfl ?_); refine goesL_ (some 22) rfl rfl Try.func17 (by kernel_rfl) rfl #[.slice A0 l0.length c0] rfl (by (try simp only [List.map_toArray, List.map_cons, List.map_nil]); first | done | rfl | (simp only [List.length_drop, List.length_take]; rfl)) ?_; (with_reducible refine (laws_toTeamS.calls k _ _ l0 t254 _ ?side1 ?side2 A9.out).mono ?_); (case side1 => repeat (first | exact (Kd.C_below HR0.out HB.out) | (with_reducible refine Kd.C_alloc ?_ _) | (with_reducible refine Kd.C_drewN ?_ _) | (with_reducible refine Kd.C_drew ?_))); (case side2 => exact HC0.out); rintro e w16 ⟨v255, rfl, ho0, hb⟩; refine ⟨_, rfl, ?_⟩; have n0_ := Aside0.mk (Kd.S_elder' (by (with_reducible repeat (first | apply Kd.S_alloc | apply Kd.S_drewN | apply Kd.S_drew)); exact HO252.out) (Kd.S_base ho0) hb); have n1_ := Aside0.mk (Kd.S_lower (Kd.S_new' ho0 (Kd.S_lt (by (with_reducible repeat (first | apply Kd.S_alloc | apply Kd.S_drewN | apply Kd.S_drew)); exact HO252.out))) (below_size (by repeat (first | (with_reducible first | exact HB.out | apply below_alloc | apply pw_below_drewN | apply below_drew1) | exact HB.out)))); have n2_ := Aside0.mk (below_step (by repeat (first | (with_reducible first | exact HB.out | apply below_alloc | apply pw_below_drewN | apply below_drew1) | exact HB.out)) hb); clear HO252; clear HB; have HO252 := n0_; have HO256 := n1_; have HB := n2_; clear n0_ n1_ n2_; (try clear hb); (try clear hb2); (try clear hk); (try clear hi); (try clear ho0); obtain ⟨Ao17, co17, eo17⟩ := Kd.S_slice HO256.out; subst eo17) | ((with_reducible refine gate_callee (f := 27) rfl ?_); refine goesL_ (some 26) rfl rfl Try.func27 (by kernel_rfl) rfl #[.slice Ao17 t254.length co17, .int .i64 a1, .int .i64 a2] rfl (by (try simp only [List.map_toArray, List.map_cons, List.map_nil]); first | done | rfl | (simp only [List.length_drop, List.length_take]; rfl)) ?_; (with_reducible refine (impl_MayMeet.calls k _ _ t254 a1 a2 t257 _ ?side1 ?side2 A10.out).mono ?_); (case side1 => repeat (first | exact (Kd.S_reads' HO256.out).2.2 | (with_reducible refine Kd.C_alloc ?_ _) | (with_reducible refine Kd.C_drewN ?_ _) | (with_reducible refine Kd.C_drew ?_))); (case side2 => exact (Kd.S_reads' HO256.out).2.1); rintro e w18 ⟨rfl, hb⟩; refine ⟨_, rfl, ?_⟩; have n0_ := Aside0.mk (Kd.S_below (by (with_reducible repeat (first | apply Kd.S_alloc | apply Kd.S_drewN | apply Kd.S_drew)); exact HO252.out) hb); have n1_ := Aside0.mk (Kd.S_below (by (with_reducible repeat (first | apply Kd.S_alloc | apply Kd.S_drewN | apply Kd.S_drew)); exact HO256.out) hb); have n2_ := Aside0.mk (below_step (by repeat (first | (with_reducible first | exact HB.out | apply below_alloc | apply pw_below_drewN | apply below_drew1) | exact HB.out)) hb); clear HO252; clear HO256; clear HB; have HO252 := n0_; have HO256 := n1_; have HB := n2_; clear n0_ n1_ n2_; (try clear hb); (try clear hb2); (try clear hk); (try clear hi)))
   go_ret
   exact ⟨by first | rfl | (simp [errW_none, errW_some] <;> rfl) | (simp [*, errW_none, errW_some] <;> rfl), by repeat (first | (with_reducible first | exact HB.out | apply below_alloc | apply pw_below_drewN | apply below_drew1) | exact HB.out)⟩
  ·
   rw [if_neg c11] at H
   have c11b0 : (t257 != t253) = false := by simpa using c11
   (try (have c11b1 : decide (t257 = t253) = true := by simpa using c11))
   (try (have c11b2 : (t257 == t253) = true := by simpa using c11))
   clear c11
   replace H := Option.bind_eq_some_iff.mp H
   obtain ⟨t258, A190, H⟩ := H
   replace H : ((laws_eqTeamS.f k t254 t258).bind fun t261 => (if t261 = true then (some true) else (some false))) = some r := H
   have A19 := Aside0.mk A190
   clear A190
   replace H := Option.bind_eq_some_iff.mp H
   obtain ⟨t261, A200, H⟩ := H
   replace H : (if t261 = true then (some true) else (some false)) = some r := H
   have A20 := Aside0.mk A200
   clear A200
   by_cases c21 : t261 = true
   ·
    subst c21
    have H1 : (some true) = some r := by rw [if_pos rfl] at H; exact H
    clear H
    have H := H1
    clear H1
    obtain rfl := Option.some.inj H
    go_enter Try.func7, Try.ntmps7
    go_wp2_with (first | ((with_reducible refine gate_callee (f := 15) rfl ?_); refine goesL_ (some 13) rfl rfl Try.func15 (by kernel_rfl) rfl #[.slice A0 l0.length c0, .int .i64 1048576] rfl (by (try simp only [List.map_toArray, List.map_cons, List.map_nil]); first | done | rfl | (simp only [List.length_drop, List.length_take]; rfl)) ?_; (with_reducible refine (laws_szTeamS.calls k _ _ l0 1048576 t249 _ ?side1 ?side2 A4.out).mono ?_); (case side1 => repeat (first | exact HR0.out | (with_reducible refine Kd.C_alloc ?_ _) | (with_reducible refine Kd.C_drewN ?_ _) | (with_reducible refine Kd.C_drew ?_))); (case side2 => exact HC0.out); rintro e w22 ⟨rfl, hb⟩; refine ⟨_, rfl, ?_⟩; have n0_ := Aside0.mk (below_step (by repeat (first | (with_reducible first | exact HB.out | apply below_alloc | apply pw_below_drewN | apply below_drew1) | exact HB.out)) hb); clear HB; have HB := n0_; clear n0_; (try clear hb); (try clear hb2); (try clear hk); (try clear hi)) | ((with_reducible refine gate_callee (f := 17) rfl ?_); refine goesL_ (some 17) rfl rfl Try.func17 (by kernel_rfl) rfl #[.slice A0 l0.length c0] rfl (by (try simp only [List.map_toArray, List.map_cons, List.map_nil]); first | done | rfl | (simp only [List.length_drop, List.length_take]; rfl)) ?_; (with_reducible refine (laws_toTeamS.calls k _ _ l0 t250 _ ?side1 ?side2 A7.out).mono ?_); (case side1 => repeat (first | exact (Kd.C_below HR0.out HB.out) | (with_reducible refine Kd.C_alloc ?_ _) | (with_reducible refine Kd.C_drewN ?_ _) | (with_reducible refine Kd.C_drew ?_))); (case side2 => exact HC0.out); rintro e w23 ⟨v251, rfl, ho0, hb⟩; refine ⟨_, rfl, ?_⟩; have n0_ := Aside0.mk (Kd.S_lower ho0 (below_size (by repeat (first | (with_reducible first | exact HB.out | apply below_alloc | apply pw_below_drewN | apply below_drew1) | exact HB.out)))); have n1_ := Aside0.mk (below_step (by repeat (first | (with_reducible first | exact HB.out | apply below_alloc | apply pw_below_drewN | apply below_drew1) | exact HB.out)) hb); clear HB; have HO252 := n0_; have HB := n1_; clear n0_ n1_; (try clear hb); (try clear hb2); (try clear hk); (try clear hi); (try clear ho0); obtain ⟨Ao24, co24, eo24⟩ := Kd.S_slice HO252.out; subst eo24) | ((with_reducible refine gate_callee (f := 26) rfl ?_); refine goesL_ (some 20) rfl rfl Try.func26 (by kernel_rfl) rfl #[.slice Ao24 t250.length co24, .int .i64 a1, .int .i64 a2] rfl (by (try simp only [List.map_toArray, List.map_cons, List.map_nil]); first | done | rfl | (simp only [List.length_drop, List.length_take]; rfl)) ?_; (with_reducible refine (spec_MayMeet.calls k _ _ t250 a1 a2 t253 _ ?side1 ?side2 A8.out).mono ?_); (case side1 => repeat (first | exact (Kd.S_reads' HO252.out).2.2 | (with_reducible refine Kd.C_alloc ?_ _) | (with_reducible refine Kd.C_drewN ?_ _) | (with_reducible refine Kd.C_drew ?_))); (case side2 => exact (Kd.S_reads' HO252.out).2.1); rintro e w25 ⟨rfl, hb⟩; refine ⟨_, rfl, ?_⟩; have n0_ := Aside0.mk (Kd.S_below (by (with_reducible repeat (first | apply Kd.S_alloc | apply Kd.S_drewN | apply Kd.S_drew)); exact HO252.out) hb); have n1_ := Aside0.mk (below_step (by repeat (first | (with_reducible first | exact HB.out | apply below_alloc | apply pw_below_drewN | apply below_drew1) | exact HB.out)) hb); clear HO252; clear HB; have HO252 := n0_; have HB := n1_; clear n0_ n1_; (try clear hb); (try clear hb2); (try clear hk); (try clear hi)) | ((with_reducible refine gate_callee (f := 17) rfl ?_); refine goesL_ (some 22) rfl rfl Try.func17 (by kernel_rfl) rfl #[.slice A0 l0.length c0] rfl (by (try simp only [List.map_toArray, List.map_cons, List.map_nil]); first | done | rfl | (simp only [List.length_drop, List.length_take]; rfl)) ?_; (with_reducible refine (laws_toTeamS.calls k _ _ l0 t254 _ ?side1 ?side2 A9.out).mono ?_); (case side1 => repeat (first | exact (Kd.C_below HR0.out HB.out) | (with_reducible refine Kd.C_alloc ?_ _) | (with_reducible refine Kd.C_drewN ?_ _) | (with_reducible refine Kd.C_drew ?_))); (case side2 => exact HC0.out); rintro e w26 ⟨v255, rfl, ho0, hb⟩; refine ⟨_, rfl, ?_⟩; have n0_ := Aside0.mk (Kd.S_elder' (by (with_reducible repeat (first | apply Kd.S_alloc | apply Kd.S_drewN | apply Kd.S_drew)); exact HO252.out) (Kd.S_base ho0) hb); have n1_ := Aside0.mk (Kd.S_lower (Kd.S_new' ho0 (Kd.S_lt (by (with_reducible repeat (first | apply Kd.S_alloc | apply Kd.S_drewN | apply Kd.S_drew)); exact HO252.out))) (below_size (by repeat (first | (with_reducible first | exact HB.out | apply below_alloc | apply pw_below_drewN | apply below_drew1) | exact HB.out)))); have n2_ := Aside0.mk (below_step (by repeat (first | (with_reducible first | exact HB.out | apply below_alloc | apply pw_below_drewN | apply below_drew1) | exact HB.out)) hb); clear HO252; clear HB; have HO252 := n0_; have HO256 := n1_; have HB := n2_; clear n0_ n1_ n2_; (try clear hb); (try clear hb2); (try clear hk); (try clear hi); (try clear ho0); obtain ⟨Ao27, co27, eo27⟩ := Kd.S_slice HO256.out; subst eo27) | ((with_reducible refine gate_callee (f := 27) rfl ?_); refine goesL_ (some 26) rfl rfl Try.func27 (by kernel_rfl) rfl #[.slice Ao27 t254.length co27, .int .i64 a1, .int .i64 a2] rfl (by (try simp only [List.map_toArray, List.map_cons, List.map_nil]); first | done | rfl | (simp only [List.length_drop, List.length_take]; rfl)) ?_; (with_reducible refine (impl_MayMeet.calls k _ _ t254 a1 a2 t257 _ ?side1 ?side2 A10.out).mono ?_); (case side1 => repeat (first | exact (Kd.S_reads' HO256.out).2.2 | (with_reducible refine Kd.C_alloc ?_ _) | (with_reducible refine Kd.C_drewN ?_ _) | (with_reducible refine Kd.C_drew ?_))); (case side2 => exact (Kd.S_reads' HO256.out).2.1); rintro e w28 ⟨rfl, hb⟩; refine ⟨_, rfl, ?_⟩; have n0_ := Aside0.mk (Kd.S_below (by (with_reducible repeat (first | apply Kd.S_alloc | apply Kd.S_drewN | apply Kd.S_drew)); exact HO252.out) hb); have n1_ := Aside0.mk (Kd.S_below (by (with_reducible repeat (first | apply Kd.S_alloc | apply Kd.S_drewN | apply Kd.S_drew)); exact HO256.out) hb); have n2_ := Aside0.mk (below_step (by repeat (first | (with_reducible first | exact HB.out | apply below_alloc | apply pw_below_drewN | apply below_drew1) | exact HB.out)) hb); clear HO252; clear HO256; clear HB; have HO252 := n0_; have HO256 := n1_; have HB := n2_; clear n0_ n1_ n2_; (try clear hb); (try clear hb2); (try clear hk); (try clear hi)) | ((with_reducible refine gate_callee (f := 17) rfl ?_); refine goesL_ (some 32) rfl rfl Try.func17 (by kernel_rfl) rfl #[.slice A0 l0.length c0] rfl (by (try simp only [List.map_toArray, List.map_cons, List.map_nil]); first | done | rfl | (simp only [List.length_drop, List.length_take]; rfl)) ?_; (with_reducible refine (laws_toTeamS.calls k _ _ l0 t258 _ ?side1 ?side2 A19.out).mono ?_); (case side1 => repeat (first | exact (Kd.C_below HR0.out HB.out) | (with_reducible refine Kd.C_alloc ?_ _) | (with_reducible refine Kd.C_drewN ?_ _) | (with_reducible refine Kd.C_drew ?_))); (case side2 => exact HC0.out); rintro e w29 ⟨v259, rfl, ho0, hb⟩; refine ⟨_, rfl, ?_⟩; have n0_ := Aside0.mk (Kd.S_elder' (by (with_reducible repeat (first | apply Kd.S_alloc | apply Kd.S_drewN | apply Kd.S_drew)); exact HO252.out) (Kd.S_base ho0) hb); have n1_ := Aside0.mk (Kd.S_elder' (by (with_reducible repeat (first | apply Kd.S_alloc | apply Kd.S_drewN | apply Kd.S_drew)); exact HO256.out) (Kd.S_base ho0) hb); have n2_ := Aside0.mk (Kd.S_lower (Kd.S_new' (Kd.S_new' ho0 (Kd.S_lt (by (with_reducible repeat (first | apply Kd.S_alloc | apply Kd.S_drewN | apply Kd.S_drew)); exact HO252.out))) (Kd.S_lt (by (with_reducible repeat (first | apply Kd.S_alloc | apply Kd.S_drewN | apply Kd.S_drew)); exact HO256.out))) (below_size (by repeat (first | (with_reducible first | exact HB.out | apply below_alloc | apply pw_below_drewN | apply below_drew1) | exact HB.out)))); have n3_ := Aside0.mk (below_step (by repeat (first | (with_reducible first | exact HB.out | apply below_alloc | apply pw_below_drewN | apply below_drew1) | exact HB.out)) hb); clear HO252; clear HO256; clear HB; have HO252 := n0_; have HO256 := n1_; have HO260 := n2_; have HB := n3_; clear n0_ n1_ n2_ n3_; (try clear hb); (try clear hb2); (try clear hk); (try clear hi); (try clear ho0); obtain ⟨Ao30, co30, eo30⟩ := Kd.S_slice HO260.out; subst eo30) | ((with_reducible refine gate_callee (f := 19) rfl ?_); refine goesL_ (some 33) rfl rfl Try.func19 (by kernel_rfl) rfl #[.slice Ao27 t254.length co27, .slice Ao30 t258.length co30] rfl (by (try simp only [List.map_toArray, List.map_cons, List.map_nil]); first | done | rfl | (simp only [List.length_drop, List.length_take]; rfl)) ?_; (with_reducible refine (laws_eqTeamS.calls k _ _ t254 _ _ t258 true _ ?side1 ?side2 ?side3 ?side4 A20.out).mono ?_); (case side1 => repeat (first | exact (Kd.S_reads' HO256.out).2.2 | (with_reducible refine Kd.C_alloc ?_ _) | (with_reducible refine Kd.C_drewN ?_ _) | (with_reducible refine Kd.C_drew ?_))); (case side2 => exact (Kd.S_reads' HO256.out).2.1); (case side3 => repeat (first | exact (Kd.S_reads' HO260.out).2.2 | (with_reducible refine Kd.C_alloc ?_ _) | (with_reducible refine Kd.C_drewN ?_ _) | (with_reducible refine Kd.C_drew ?_))); (case side4 => exact (Kd.S_reads' HO260.out).2.1); rintro e w31 ⟨rfl, hb⟩; refine ⟨_, rfl, ?_⟩; have n0_ := Aside0.mk (Kd.S_below (by (with_reducible repeat (first | apply Kd.S_alloc | apply Kd.S_drewN | apply Kd.S_drew)); exact HO252.out) hb); have n1_ := Aside0.mk (Kd.S_below (by (with_reducible repeat (first | apply Kd.S_alloc | apply Kd.S_drewN | apply Kd.S_drew)); exact HO256.out) hb); have n2_ := Aside0.mk (Kd.S_below (by (with_reducible repeat (first | apply Kd.S_alloc | apply Kd.S_drewN | apply Kd.S_drew)); exact HO260.out) hb); have n3_ := Aside0.mk (below_step (by repeat (first | (with_reducible first | exact HB.out | apply below_alloc | apply pw_below_drewN | apply below_drew1) | exact HB.out)) hb); clear HO252; clear HO256; clear HO260; clear HB; have HO252 := n0_; have HO256 := n1_; have HO260 := n2_; have HB := n3_; clear n0_ n1_ n2_ n3_; (try clear hb); (try clear hb2); (try clear hk); (try clear hi)))
    go_ret
    exact ⟨by first | rfl | (simp [errW_none, errW_some] <;> rfl) | (simp [*, errW_none, errW_some] <;> rfl), by repeat (first | (with_reducible first | exact HB.out | apply below_alloc | apply pw_below_drewN | apply below_drew1) | exact HB.out)⟩
   ·
    replace c21 := Bool.eq_false_iff.mpr c21
    subst c21
    have H1 : (some false) = some r := by rw [if_neg (show ¬ (false = true) by decide)] at H; exact H
    clear H
    have H := H1
    clear H1
    obtain rfl := Option.some.inj H
    go_enter Try.func7, Try.ntmps7
    go_wp2_with (first | ((with_reducible refine gate_callee (f := 15) rfl ?_); refine goesL_ (some 13) rfl rfl Try.func15 (by kernel_rfl) rfl #[.slice A0 l0.length c0, .int .i64 1048576] rfl (by (try simp only [List.map_toArray, List.map_cons, List.map_nil]); first | done | rfl | (simp only [List.length_drop, List.length_take]; rfl)) ?_; (with_reducible refine (laws_szTeamS.calls k _ _ l0 1048576 t249 _ ?side1 ?side2 A4.out).mono ?_); (case side1 => repeat (first | exact HR0.out | (with_reducible refine Kd.C_alloc ?_ _) | (with_reducible refine Kd.C_drewN ?_ _) | (with_reducible refine Kd.C_drew ?_))); (case side2 => exact HC0.out); rintro e w32 ⟨rfl, hb⟩; refine ⟨_, rfl, ?_⟩; have n0_ := Aside0.mk (below_step (by repeat (first | (with_reducible first | exact HB.out | apply below_alloc | apply pw_below_drewN | apply below_drew1) | exact HB.out)) hb); clear HB; have HB := n0_; clear n0_; (try clear hb); (try clear hb2); (try clear hk); (try clear hi)) | ((with_reducible refine gate_callee (f := 17) rfl ?_); refine goesL_ (some 17) rfl rfl Try.func17 (by kernel_rfl) rfl #[.slice A0 l0.length c0] rfl (by (try simp only [List.map_toArray, List.map_cons, List.map_nil]); first | done | rfl | (simp only [List.length_drop, List.length_take]; rfl)) ?_; (with_reducible refine (laws_toTeamS.calls k _ _ l0 t250 _ ?side1 ?side2 A7.out).mono ?_); (case side1 => repeat (first | exact (Kd.C_below HR0.out HB.out) | (with_reducible refine Kd.C_alloc ?_ _) | (with_reducible refine Kd.C_drewN ?_ _) | (with_reducible refine Kd.C_drew ?_))); (case side2 => exact HC0.out); rintro e w33 ⟨v251, rfl, ho0, hb⟩; refine ⟨_, rfl, ?_⟩; have n0_ := Aside0.mk (Kd.S_lower ho0 (below_size (by repeat (first | (with_reducible first | exact HB.out | apply below_alloc | apply pw_below_drewN | apply below_drew1) | exact HB.out)))); have n1_ := Aside0.mk (below_step (by repeat (first | (with_reducible first | exact HB.out | apply below_alloc | apply pw_below_drewN | apply below_drew1) | exact HB.out)) hb); clear HB; have HO252 := n0_; have HB := n1_; clear n0_ n1_; (try clear hb); (try clear hb2); (try clear hk); (try clear hi); (try clear ho0); obtain ⟨Ao34, co34, eo34⟩ := Kd.S_slice HO252.out; subst eo34) | ((with_reducible refine gate_callee (f := 26) rfl ?_); refine goesL_ (some 20) rfl rfl Try.func26 (by kernel_rfl) rfl #[.slice Ao34 t250.length co34, .int .i64 a1, .int .i64 a2] rfl (by (try simp only [List.map_toArray, List.map_cons, List.map_nil]); first | done | rfl | (simp only [List.length_drop, List.length_take]; rfl)) ?_; (with_reducible refine (spec_MayMeet.calls k _ _ t250 a1 a2 t253 _ ?side1 ?side2 A8.out).mono ?_); (case side1 => repeat (first | exact (Kd.S_reads' HO252.out).2.2 | (with_reducible refine Kd.C_alloc ?_ _) | (with_reducible refine Kd.C_drewN ?_ _) | (with_reducible refine Kd.C_drew ?_))); (case side2 => exact (Kd.S_reads' HO252.out).2.1); rintro e w35 ⟨rfl, hb⟩; refine ⟨_, rfl, ?_⟩; have n0_ := Aside0.mk (Kd.S_below (by (with_reducible repeat (first | apply Kd.S_alloc | apply Kd.S_drewN | apply Kd.S_drew)); exact HO252.out) hb); have n1_ := Aside0.mk (below_step (by repeat (first | (with_reducible first | exact HB.out | apply below_alloc | apply pw_below_drewN | apply below_drew1) | exact HB.out)) hb); clear HO252; clear HB; have HO252 := n0_; have HB := n1_; clear n0_ n1_; (try clear hb); (try clear hb2); (try clear hk); (try clear hi)) | ((with_reducible refine gate_callee (f := 17) rfl ?_); refine goesL_ (some 22) rfl rfl Try.func17 (by kernel_rfl) rfl #[.slice A0 l0.length c0] rfl (by (try simp only [List.map_toArray, List.map_cons, List.map_nil]); first | done | rfl | (simp only [List.length_drop, List.length_take]; rfl)) ?_; (with_reducible refine (laws_toTeamS.calls k _ _ l0 t254 _ ?side1 ?side2 A9.out).mono ?_); (case side1 => repeat (first | exact (Kd.C_below HR0.out HB.out) | (with_reducible refine Kd.C_alloc ?_ _) | (with_reducible refine Kd.C_drewN ?_ _) | (with_reducible refine Kd.C_drew ?_))); (case side2 => exact HC0.out); rintro e w36 ⟨v255, rfl, ho0, hb⟩; refine ⟨_, rfl, ?_⟩; have n0_ := Aside0.mk (Kd.S_elder' (by (with_reducible repeat (first | apply Kd.S_alloc | apply Kd.S_drewN | apply Kd.S_drew)); exact HO252.out) (Kd.S_base ho0) hb); have n1_ := Aside0.mk (Kd.S_lower (Kd.S_new' ho0 (Kd.S_lt (by (with_reducible repeat (first | apply Kd.S_alloc | apply Kd.S_drewN | apply Kd.S_drew)); exact HO252.out))) (below_size (by repeat (first | (with_reducible first | exact HB.out | apply below_alloc | apply pw_below_drewN | apply below_drew1) | exact HB.out)))); have n2_ := Aside0.mk (below_step (by repeat (first | (with_reducible first | exact HB.out | apply below_alloc | apply pw_below_drewN | apply below_drew1) | exact HB.out)) hb); clear HO252; clear HB; have HO252 := n0_; have HO256 := n1_; have HB := n2_; clear n0_ n1_ n2_; (try clear hb); (try clear hb2); (try clear hk); (try clear hi); (try clear ho0); obtain ⟨Ao37, co37, eo37⟩ := Kd.S_slice HO256.out; subst eo37) | ((with_reducible refine gate_callee (f := 27) rfl ?_); refine goesL_ (some 26) rfl rfl Try.func27 (by kernel_rfl) rfl #[.slice Ao37 t254.length co37, .int .i64 a1, .int .i64 a2] rfl (by (try simp only [List.map_toArray, List.map_cons, List.map_nil]); first | done | rfl | (simp only [List.length_drop, List.length_take]; rfl)) ?_; (with_reducible refine (impl_MayMeet.calls k _ _ t254 a1 a2 t257 _ ?side1 ?side2 A10.out).mono ?_); (case side1 => repeat (first | exact (Kd.S_reads' HO256.out).2.2 | (with_reducible refine Kd.C_alloc ?_ _) | (with_reducible refine Kd.C_drewN ?_ _) | (with_reducible refine Kd.C_drew ?_))); (case side2 => exact (Kd.S_reads' HO256.out).2.1); rintro e w38 ⟨rfl, hb⟩; refine ⟨_, rfl, ?_⟩; have n0_ := Aside0.mk (Kd.S_below (by (with_reducible repeat (first | apply Kd.S_alloc | apply Kd.S_drewN | apply Kd.S_drew)); exact HO252.out) hb); have n1_ := Aside0.mk (Kd.S_below (by (with_reducible repeat (first | apply Kd.S_alloc | apply Kd.S_drewN | apply Kd.S_drew)); exact HO256.out) hb); have n2_ := Aside0.mk (below_step (by repeat (first | (with_reducible first | exact HB.out | apply below_alloc | apply pw_below_drewN | apply below_drew1) | exact HB.out)) hb); clear HO252; clear HO256; clear HB; have HO252 := n0_; have HO256 := n1_; have HB := n2_; clear n0_ n1_ n2_; (try clear hb); (try clear hb2); (try clear hk); (try clear hi)) | ((with_reducible refine gate_callee (f := 17) rfl ?_); refine goesL_ (some 32) rfl rfl Try.func17 (by kernel_rfl) rfl #[.slice A0 l0.length c0] rfl (by (try simp only [List.map_toArray, List.map_cons, List.map_nil]); first | done | rfl | (simp only [List.length_drop, List.length_take]; rfl)) ?_; (with_reducible refine (laws_toTeamS.calls k _ _ l0 t258 _ ?side1 ?side2 A19.out).mono ?_); (case side1 => repeat (first | exact (Kd.C_below HR0.out HB.out) | (with_reducible refine Kd.C_alloc ?_ _) | (with_reducible refine Kd.C_drewN ?_ _) | (with_reducible refine Kd.C_drew ?_))); (case side2 => exact HC0.out); rintro e w39 ⟨v259, rfl, ho0, hb⟩; refine ⟨_, rfl, ?_⟩; have n0_ := Aside0.mk (Kd.S_elder' (by (with_reducible repeat (first | apply Kd.S_alloc | apply Kd.S_drewN | apply Kd.S_drew)); exact HO252.out) (Kd.S_base ho0) hb); have n1_ := Aside0.mk (Kd.S_elder' (by (with_reducible repeat (first | apply Kd.S_alloc | apply Kd.S_drewN | apply Kd.S_drew)); exact HO256.out) (Kd.S_base ho0) hb); have n2_ := Aside0.mk (Kd.S_lower (Kd.S_new' (Kd.S_new' ho0 (Kd.S_lt (by (with_reducible repeat (first | apply Kd.S_alloc | apply Kd.S_drewN | apply Kd.S_drew)); exact HO252.out))) (Kd.S_lt (by (with_reducible repeat (first | apply Kd.S_alloc | apply Kd.S_drewN | apply Kd.S_drew)); exact HO256.out))) (below_size (by repeat (first | (with_reducible first | exact HB.out | apply below_alloc | apply pw_below_drewN | apply below_drew1) | exact HB.out)))); have n3_ := Aside0.mk (below_step (by repeat (first | (with_reducible first | exact HB.out | apply below_alloc | apply pw_below_drewN | apply below_drew1) | exact HB.out)) hb); clear HO252; clear HO256; clear HB; have HO252 := n0_; have HO256 := n1_; have HO260 := n2_; have HB := n3_; clear n0_ n1_ n2_ n3_; (try clear hb); (try clear hb2); (try clear hk); (try clear hi); (try clear ho0); obtain ⟨Ao40, co40, eo40⟩ := Kd.S_slice HO260.out; subst eo40) | ((with_reducible refine gate_callee (f := 19) rfl ?_); refine goesL_ (some 33) rfl rfl Try.func19 (by kernel_rfl) rfl #[.slice Ao37 t254.length co37, .slice Ao40 t258.length co40] rfl (by (try simp only [List.map_toArray, List.map_cons, List.map_nil]); first | done | rfl | (simp only [List.length_drop, List.length_take]; rfl)) ?_; (with_reducible refine (laws_eqTeamS.calls k _ _ t254 _ _ t258 false _ ?side1 ?side2 ?side3 ?side4 A20.out).mono ?_); (case side1 => repeat (first | exact (Kd.S_reads' HO256.out).2.2 | (with_reducible refine Kd.C_alloc ?_ _) | (with_reducible refine Kd.C_drewN ?_ _) | (with_reducible refine Kd.C_drew ?_))); (case side2 => exact (Kd.S_reads' HO256.out).2.1); (case side3 => repeat (first | exact (Kd.S_reads' HO260.out).2.2 | (with_reducible refine Kd.C_alloc ?_ _) | (with_reducible refine Kd.C_drewN ?_ _) | (with_reducible refine Kd.C_drew ?_))); (case side4 => exact (Kd.S_reads' HO260.out).2.1); rintro e w41 ⟨rfl, hb⟩; refine ⟨_, rfl, ?_⟩; have n0_ := Aside0.mk (Kd.S_below (by (with_reducible repeat (first | apply Kd.S_alloc | apply Kd.S_drewN | apply Kd.S_drew)); exact HO252.out) hb); have n1_ := Aside0.mk (Kd.S_below (by (with_reducible repeat (first | apply Kd.S_alloc | apply Kd.S_drewN | apply Kd.S_drew)); exact HO256.out) hb); have n2_ := Aside0.mk (Kd.S_below (by (with_reducible repeat (first | apply Kd.S_alloc | apply Kd.S_drewN | apply Kd.S_drew)); exact HO260.out) hb); have n3_ := Aside0.mk (below_step (by repeat (first | (with_reducible first | exact HB.out | apply below_alloc | apply pw_below_drewN | apply below_drew1) | exact HB.out)) hb); clear HO252; clear HO256; clear HO260; clear HB; have HO252 := n0_; have HO256 := n1_; have HO260 := n2_; have HB := n3_; clear n0_ n1_ n2_ n3_; (try clear hb); (try clear hb2); (try clear hk); (try clear hi)))
    go_ret
    exact ⟨by first | rfl | (simp [errW_none, errW_some] <;> rfl) | (simp [*, errW_none, errW_some] <;> rfl), by repeat (first | (with_reducible first | exact HB.out | apply below_alloc | apply pw_below_drewN | apply below_drew1) | exact HB.out)⟩

end Go.Proofs.Ytiimiogpiflkdaa.A

/- Any argument of whole numbers, structs and slices of these reads as a list or a struct of the kinds' own: no condition but the types' shapes. -/
set_option linter.unusedVariables false
namespace Go.Proofs.Ytiimiogpiflkdaa.Open
open Go.ChangeShapes Go.WideShapes Go.Deep Go.RowKit Go.Proofs.YtiimiogpiflkdaaW.PrintWords

def Opn (P : Program) (t : TypeId) {α : Type} (d : Kd α) : Prop :=
  ∀ (H : Type) (enc : TypeId × Value → H) (w : World) (base : Nat) (spare : Nat → Bool) (held : Bool) (fuel : Nat) (cs : List Value) (y : DataW H × List MemPlace),
    DataW.trod enc P w base spare held fuel t cs = some y → ∃ x : α, d.K w x cs

def OpnL (P : Program) (fs : List Field) {α : Type} (d : Kd α) : Prop :=
  ∀ (H : Type) (enc : TypeId × Value → H) (w : World) (base : Nat) (spare : Nat → Bool) (held : Bool) (cs : List Value), cs.length = fs.length →
    (∀ (j : Nat) (f : Field) (c : Value), fs[j]? = some f → cs[j]? = some c → ∃ (n : Nat) (y : DataW H × List MemPlace), DataW.trod enc P w base spare held n f.type [c] = some y) → ∃ x : α, d.K w x cs

theorem opn_int {P : Program} {t : TypeId} {k : IntKind} (ht : P.underlying t = some (.int k)) : Opn P t (Kd.int k) := by
  intro H enc w base spare held fuel cs y h
  obtain ⟨n, rfl, _⟩ := DataW.trod_int ht h
  exact ⟨n, rfl⟩

theorem opnL_one {P : Program} {f : Field} {α : Type} {d : Kd α} (h : Opn P f.type d) : OpnL P [f] d := by
  intro H enc w base spare held cs hl hf
  match cs, hl with
  | [c], _ =>
    obtain ⟨n, y, hy⟩ := hf 0 f c rfl rfl
    exact h H enc w base spare held n [c] y hy

theorem opnL_cons {P : Program} {f : Field} {fs : List Field} {α β : Type} {a : Kd α} {b : Kd β} (h : Opn P f.type a) (hs : OpnL P fs b) : OpnL P (f :: fs) (Kd.pair a b) := by
  intro H enc w base spare held cs hl hf
  match cs, hl with
  | c :: cs, hl =>
    obtain ⟨n, y, hy⟩ := hf 0 f c rfl rfl
    obtain ⟨x, hx⟩ := h H enc w base spare held n [c] y hy
    obtain ⟨z, hz⟩ := hs H enc w base spare held cs (by simpa using hl) (fun j f' c' h1 h2 => hf (j + 1) f' c' (by simpa using h1) (by simpa using h2))
    exact ⟨(x, z), [c], cs, rfl, hx, hz⟩

theorem opn_struct {P : Program} {t : TypeId} {fs : Array Field} (ht : P.underlying t = some (.struct fs)) (hone : oneCellFields P fs = true) (hC : P.cellsOf t = fs.size)
    {α : Type} {d : Kd α} (hL : OpnL P fs.toList d) : Opn P t d := by
  intro H enc w base spare held fuel cs y h
  obtain ⟨xs, n, _, _, hlen, hxl, hf⟩ := DataW.trod_struct ht h
  refine hL H enc w base spare held cs (by rw [hlen, hC, Array.length_toList]) (fun j f c hj hc => ?_)
  have hj' : fs[j]? = some f := by simpa using hj
  obtain ⟨ho, hk⟩ := hone_of hone j f hj'
  have h1 := hf j f hj'
  rw [ho, hk] at h1
  have hjl : j < fs.size := (Array.getElem?_eq_some_iff.1 hj').1
  have hcl : j < cs.length := (List.getElem?_eq_some_iff.1 hc).1
  have e1 : (cs.drop j).take 1 = [c] := by
    rw [List.drop_eq_getElem_cons hcl]
    have : cs[j] = c := (List.getElem?_eq_some_iff.1 hc).2
    rw [this]; rfl
  rw [e1] at h1
  exact ⟨n, xs[j]'(by omega), h1.trans (List.getElem?_eq_getElem (by omega))⟩

theorem opn_iso {P : Program} {t : TypeId} {α β : Type} {d : Kd α} {f : β → α} (h : Opn P t d) (hs : ∀ a, ∃ b, f b = a) : Opn P t (Kd.iso d f) := by
  intro H enc w base spare held fuel cs y hy
  obtain ⟨x, hx⟩ := h H enc w base spare held fuel cs y hy
  obtain ⟨z, rfl⟩ := hs x
  exact ⟨z, hx⟩

theorem list_of {α : Type} {p : Nat → α → Prop} : ∀ n, (∀ i, i < n → ∃ x, p i x) → ∃ l : List α, l.length = n ∧ ∀ i x, l[i]? = some x → p i x
  | 0, _ => ⟨[], rfl, fun i x h => by simp at h⟩
  | n + 1, h => by
    obtain ⟨l, hl, hp⟩ := list_of n (fun i hi => h i (by omega))
    obtain ⟨x, hx⟩ := h n (by omega)
    refine ⟨l ++ [x], by simp [hl], fun i y hy => ?_⟩
    rcases Nat.lt_or_ge i l.length with hi | hi
    · rw [List.getElem?_append_left hi] at hy
      exact hp i y hy
    · have hi' : i = l.length := by
        have := (List.getElem?_eq_some_iff.1 hy).1
        rw [List.length_append, List.length_singleton] at this
        omega
      subst hi'
      have : x = y := by simpa using hy
      subst this
      rw [hl]
      exact hx

theorem opn_slice {P : Program} {t e : TypeId} {α : Type} {d : Kd α} (ht : P.underlying t = some (.slice e)) (hC : P.cellsOf e = d.sz) (he : Opn P e d) : Opn P t (Kd.slice e d) := by
  intro H enc w base spare held fuel cs y h
  rcases open_slice ht h with ⟨rfl, _⟩ | ⟨a, len, cap, m, n, D, Pl, rfl, hb, hl, hm, hmm, hx, hi⟩
  · exact ⟨[], none, 0, rfl, Nat.le_refl _, rfl, by simp, fun h => absurd h (by simp)⟩
  · have hlm : len ≤ m := by rw [hmm]; split <;> omega
    obtain ⟨xs, hxl, hp⟩ := list_of (p := fun i x => ∃ cs', w.cells? base (a.add (i * P.cellsOf e)) (P.cellsOf e) = some cs' ∧ d.K w x cs') len (fun i hil => by
      obtain ⟨cs', h1, h2⟩ := hi i (by omega)
      obtain ⟨x, hx⟩ := he H enc w base spare held n cs' _ h2
      exact ⟨x, cs', h1, hx⟩)
    refine ⟨xs, some a, cap, by rw [hxl], by omega, rfl, by unfold maxLen at hm; omega, fun _ => ⟨a, rfl, fun j p hj => ?_⟩⟩
    obtain ⟨cs', hc, hk⟩ := hp j p hj
    obtain ⟨_, hcl, hat⟩ := World.cells?_some hc
    refine ⟨cs', d.K_len hk, hk, fun i u hu => ?_⟩
    have hil : i < cs'.length := (List.getElem?_eq_some_iff.1 hu).1
    have := hat i (by omega)
    rw [Go.Deep.add_add, hC] at this
    rw [this]
    exact hu

/-- A slice that came in. -/
theorem opened {H : Type} {enc : TypeId × Value → H} {P : Program} {W : World} {base : Nat} {spare : Nat → Bool} {held : Bool} {t e : TypeId} {α : Type} {d : Kd α} (h : Opn P t (Kd.slice e d)) {a : Option Addr} {len cap : Nat} {dd : DataW H} {ps : List MemPlace}
    (ht : DataW.Trod enc P W base spare held t (.slice a len cap) dd ps) : ∃ l : List α, l.length = len ∧ l.length ≤ cap ∧ d.C W a l.length l := by
  obtain ⟨fuel, hf⟩ := ht
  obtain ⟨l, A, c, he, hl, hc⟩ := h H enc W base spare held fuel _ _ hf
  simp [Value.cells] at he
  obtain ⟨rfl, rfl, rfl⟩ := he
  exact ⟨l, rfl, hl, hc⟩
/-- A struct that came in. -/
theorem opened_struct {H : Type} {enc : TypeId × Value → H} {P : Program} {W : World} {base : Nat} {spare : Nat → Bool} {held : Bool} {t : TypeId} {α : Type} {d : Kd α} (h : Opn P t d) {cs : Array Value} {dd : DataW H} {ps : List MemPlace}
    (ht : DataW.Trod enc P W base spare held t (.agg cs) dd ps) : ∃ x : α, d.K W x cs.toList := by
  obtain ⟨fuel, hf⟩ := ht
  exact h H enc W base spare held fuel _ _ hf
theorem C_mem {α : Type} {d : Kd α} {w : World} {A : Option Addr} {n : Nat} {xs : List α} (h : d.C w A n xs) (x : α) (hx : x ∈ xs) : ∃ c, d.K w x c := by
  obtain ⟨j, hj, rfl⟩ := List.mem_iff_getElem.1 hx
  have h0 : 0 < n := by have := h.1; omega
  obtain ⟨ad, _, hc⟩ := h.2.2 h0
  obtain ⟨c, _, hk, _⟩ := hc j _ (List.getElem?_eq_getElem hj)
  exact ⟨c, hk⟩
end Go.Proofs.Ytiimiogpiflkdaa.Open

/- Plain lemmas: what holds from some number of rounds on, whole numbers that do not wrap, lists: no condition but those that each states. -/
set_option linter.unusedVariables false
set_option linter.unusedSimpArgs false
namespace Go.Proofs.Ytiimiogpiflkdaa.L
open Go Go.RowKit Go.Proofs.YtiimiogpiflkdaaW.PrintWords

theorem Ev.pos {α : Type} {c : Prop} [Decidable c] {A B : Nat → Option α} {r : α} (h : c) (k : Ev A r) : Ev (fun k => if c then A k else B k) r := by
  obtain ⟨K, k⟩ := k
  exact ⟨K, fun n hn => by show (if c then A n else B n) = some r; rw [if_pos h]; exact k n hn⟩
theorem Ev.neg {α : Type} {c : Prop} [Decidable c] {A B : Nat → Option α} {r : α} (h : ¬ c) (k : Ev B r) : Ev (fun k => if c then A k else B k) r := by
  obtain ⟨K, k⟩ := k
  exact ⟨K, fun n hn => by show (if c then A n else B n) = some r; rw [if_neg h]; exact k n hn⟩
theorem Ev.ite {α : Type} {c : Prop} [Decidable c] {A B : Nat → Option α} {r : α} (h : c → Ev A r) (k : ¬ c → Ev B r) : Ev (fun k => if c then A k else B k) r := by
  by_cases e : c
  · exact Ev.pos e (h e)
  · exact Ev.neg e (k e)
theorem Ev.cast {α : Type} {g : Nat → Option α} {r r' : α} (h : Ev g r) (e : r = r') : Ev g r' := e ▸ h
theorem Ev.bnd {α β : Type} {o : Option α} {a : α} {f : Nat → α → Option β} {r : β} (h : o = some a) (k : Ev (fun n => f n a) r) : Ev (fun n => o.bind (f n)) r := by
  obtain ⟨K, k⟩ := k
  exact ⟨K, fun n hn => by show o.bind (f n) = some r; rw [h]; exact k n hn⟩
theorem Ev.uniq {α : Type} {g : Nat → Option α} {r r' : α} (h : Ev g r) (k : Ev g r') : r = r' := by
  obtain ⟨K, h⟩ := h
  obtain ⟨K', k⟩ := k
  have h1 := h (max K K') (by omega)
  have h2 := k (max K K') (by omega)
  rw [h1] at h2
  injection h2
theorem Ev.some_ {α : Type} {r r' : α} (h : r = r') : Ev (fun _ => some r) r' := h ▸ Ev.now r

theorem w64 {x : Int} (h0 : -9223372036854775808 ≤ x) (h1 : x ≤ 9223372036854775807) : wrap64 x = x := by
  unfold wrap64
  omega
theorem w64s {n : Nat} (h : n < 4611686018427387904) : wrap64 ((n : Int) + 1) = ((n + 1 : Nat) : Int) := by
  unfold wrap64
  omega
theorem w64p {n : Nat} (h : n < 4611686018427387904) : wrap64 (((n + 1 : Nat) : Int) - 1) = (n : Int) := by
  unfold wrap64
  omega
theorem wrap_range (x : Int) : -9223372036854775808 ≤ wrap64 x ∧ wrap64 x ≤ 9223372036854775807 := by
  unfold wrap64
  omega
theorem rd_at {l : List Int} {n : Nat} (h : n < l.length) : rd l (n : Int) = l[n] := by
  simp [rd, h]
/-- The range test. -/
def inR (a b c : Int) : Bool := decide (b ≤ a ∧ a ≤ c)
theorem inR_iff {a b c : Int} : inR a b c = true ↔ b ≤ a ∧ a ≤ c := by simp [inR]
theorem inR_neg {a b c : Int} : inR a b c = false ↔ ¬ (b ≤ a ∧ a ≤ c) := by simp only [inR, decide_eq_false_iff_not]
/-- Writing at the end of what is done. -/
theorem set_snoc {α : Type} (xs ys : List α) (y z : α) : (xs ++ y :: ys).set xs.length z = (xs ++ [z]) ++ ys := by
  simp
theorem take_snoc {α : Type} (l : List α) (n : Nat) (h : n < l.length) : l.take (n + 1) = l.take n ++ [l[n]] := by
  rw [List.take_succ_eq_append_getElem h]
end Go.Proofs.Ytiimiogpiflkdaa.L

/- Copying and comparing slices of whole numbers: for every list of at most 2^40 numbers. -/
set_option linter.unusedVariables false
set_option linter.unusedSimpArgs false
namespace Go.Proofs.Ytiimiogpiflkdaa.L
open Go Go.RowKit Go.Proofs.Ytiimiogpiflkdaa.A Go.Proofs.YtiimiogpiflkdaaW.PrintWords

theorem toIntS_l0 (l : List Int) (hl : l.length ≤ 1099511627776) : ∀ (d n : Nat) (xs : List Int), n + d = l.length → xs.length = l.length → xs.take n = l.take n → Ev (fun k => laws_toIntS.l0 k l xs (n : Int)) l := by
  intro d
  induction d with
  | zero =>
    intro n xs hd hx ht
    refine Ev.step (fun k => laws_toIntS.l0.eq_2 ..) ?_
    refine Ev.neg (by omega) (Ev.some_ ?_)
    rw [List.take_of_length_le (by omega), List.take_of_length_le (by omega)] at ht
    exact ht
  | succ d ih =>
    intro n xs hd hx ht
    refine Ev.step (fun k => laws_toIntS.l0.eq_2 ..) ?_
    refine Ev.pos (by omega) (Ev.pos (by omega) (Ev.pos (by omega) ?_))
    simp only [w64s (show n < 4611686018427387904 by omega), rd_at (show n < l.length by omega), Int.toNat_natCast]
    refine ih (n + 1) _ (by omega) (by simp [hx]) ?_
    rw [List.take_succ_eq_append_getElem (by simp; omega), List.take_succ_eq_append_getElem (by omega), List.take_set_of_le (by omega), ht]
    simp
theorem toIntS_ev (l : List Int) (hl : l.length ≤ 1099511627776) : Ev (fun k => laws_toIntS.f k l) l := by
  unfold laws_toIntS.f
  refine Ev.pos (by omega) (Ev.pos (by simp; omega) ?_)
  exact toIntS_l0 l hl l.length 0 _ (by omega) (by simp) (by simp)

theorem eqIntS_l0 (l m : List Int) (hl : l.length ≤ 1099511627776) (hm : l.length = m.length) : ∀ (d n : Nat), n + d = l.length → Ev (fun k => laws_eqIntS.l0 k l m (n : Int)) (decide (l.drop n = m.drop n)) := by
  intro d
  induction d with
  | zero =>
    intro n hd
    refine Ev.step (fun k => laws_eqIntS.l0.eq_2 ..) ?_
    refine Ev.neg (by omega) (Ev.some_ ?_)
    rw [List.drop_eq_nil_of_le (by omega), List.drop_eq_nil_of_le (by omega)]
    simp
  | succ d ih =>
    intro n hd
    refine Ev.step (fun k => laws_eqIntS.l0.eq_2 ..) ?_
    refine Ev.pos (by omega) (Ev.pos (by omega) (Ev.pos (by omega) ?_))
    simp only [w64s (show n < 4611686018427387904 by omega), rd_at (show n < l.length by omega), rd_at (show n < m.length by omega)]
    have h1 := ih (n + 1) (by omega)
    rw [List.drop_eq_getElem_cons (show n < l.length by omega), List.drop_eq_getElem_cons (show n < m.length by omega)]
    generalize l.drop (n + 1) = u at h1 ⊢
    generalize m.drop (n + 1) = v at h1 ⊢
    refine Ev.ite (fun h => Ev.cast h1 ?_) (fun h => Ev.some_ ?_)
    · simp [h]
    · simp [h]
theorem eqIntS_ev (l m : List Int) (hl : l.length ≤ 1099511627776) : Ev (fun k => laws_eqIntS.f k l m) (decide (l = m)) := by
  unfold laws_eqIntS.f
  refine Ev.ite (fun h => Ev.cast (eqIntS_l0 l m hl (by omega) l.length 0 (by omega)) (by simp)) (fun h => Ev.some_ ?_)
  have : l ≠ m := fun e => h (by rw [e])
  simp [this]
end Go.Proofs.Ytiimiogpiflkdaa.L

/- Teams: weighing, copying, comparing, finding: what the printed functions come to, for every list of at most 2^40 teams who met at most 2^40 times. -/
set_option linter.unusedVariables false
set_option linter.unusedSimpArgs false
namespace Go.Proofs.Ytiimiogpiflkdaa.L
open Go Go.RowKit Go.Proofs.Ytiimiogpiflkdaa.A Go.Proofs.YtiimiogpiflkdaaW.PrintWords

abbrev Tm := S61
theorem rdTm {l : List Tm} {n : Nat} (h : n < l.length) : rd_T61 l (n : Int) = l[n] := by
  simp [rd_T61, h]
theorem rdLTm {l : List S64} {n : Nat} (h : n < l.length) : rd_T64 l (n : Int) = l[n] := by
  simp [rd_T64, h]
def cvTm (x : S64) : Tm := ⟨x.f0, x.f1, x.f2, x.f3, x.f4, x.f5⟩
/-- Lists of teams of a size that any machine holds. -/
def Small (l : List Tm) : Prop := l.length ≤ 1099511627776 ∧ ∀ x ∈ l, x.f5.length ≤ 1099511627776
theorem szInt_eq (l : List Int) (left : Int) (h0 : 0 ≤ left) (h1 : left ≤ 1048576) (hl : l.length ≤ 9223372036854775807) : laws_szIntS.f l left = some (if left - l.length < 0 then -1 else left - l.length) := by
  unfold laws_szIntS.f
  rw [w64 (by omega) (by omega)]
  split <;> rfl
theorem szTeamS_l0 (l : List S64) (hl : l.length ≤ 1048576) (hi : ∀ x ∈ l, x.f5.length ≤ 9223372036854775807) : ∀ (d n : Nat) (left : Int), n + d = l.length → 0 ≤ left → left ≤ 1048576 → (∀ (i : Nat) (h : i < n) (h' : i < l.length), (l[i]).f5.length ≤ 1048576) → ∃ v, Ev (fun k => laws_szTeamS.l0 k l left (n : Int)) v ∧ v ≤ 1048576 ∧ (0 ≤ v → ∀ x ∈ l, x.f5.length ≤ 1048576) := by
  intro d
  induction d with
  | zero =>
    intro n left hd h0 h1 hp
    refine ⟨left, Ev.step (fun k => laws_szTeamS.l0.eq_2 ..) (Ev.neg (by omega) (Ev.now _)), h1, fun _ x hx => ?_⟩
    obtain ⟨j, hj, rfl⟩ := List.mem_iff_getElem.1 hx
    exact hp j (by omega) hj
  | succ d ih =>
    intro n left hd h0 h1 hp
    have hn : n < l.length := by omega
    have hs := szInt_eq (l[n]).f5 left h0 h1 (hi _ (List.getElem_mem _))
    by_cases hb : left - (l[n]).f5.length < 0
    · rw [if_pos hb] at hs
      have hs2 : laws_szTeam.f (l[n]).f0 (l[n]).f1 (l[n]).f2 (l[n]).f3 (l[n]).f4 (l[n]).f5 left = some (-1) := by
        unfold laws_szTeam.f
        rw [hs]
        rfl
      refine ⟨-1, Ev.step (fun k => laws_szTeamS.l0.eq_2 ..) (Ev.pos (by omega) (Ev.pos (by omega) ?_)), by omega, fun h => by omega⟩
      simp only [rdLTm hn]
      exact Ev.bnd hs2 (Ev.pos (by omega) (Ev.now _))
    · rw [if_neg hb] at hs
      have hs2 : laws_szTeam.f (l[n]).f0 (l[n]).f1 (l[n]).f2 (l[n]).f3 (l[n]).f4 (l[n]).f5 left = some (left - (l[n]).f5.length) := by
        unfold laws_szTeam.f
        rw [hs]
        simp only [Option.bind_some]
        rw [if_neg hb]
      obtain ⟨v, hv, hv1, hv2⟩ := ih (n + 1) (left - (l[n]).f5.length) (by omega) (by omega) (by omega) (fun i h h' => by
        by_cases e : i = n
        · subst e
          omega
        · exact hp i (by omega) h')
      refine ⟨v, Ev.step (fun k => laws_szTeamS.l0.eq_2 ..) (Ev.pos (by omega) (Ev.pos (by omega) ?_)), hv1, hv2⟩
      simp only [rdLTm hn, w64s (show n < 4611686018427387904 by omega)]
      exact Ev.bnd hs2 (Ev.neg (by omega) hv)
theorem szTeamS_ev (l : List S64) (hl : l.length ≤ 9223372036854775807) (hi : ∀ x ∈ l, x.f5.length ≤ 9223372036854775807) : ∃ v, Ev (fun k => laws_szTeamS.f k l 1048576) v ∧ v ≤ 1048576 ∧ (¬ v < 0 → l.length ≤ 1048576 ∧ ∀ x ∈ l, x.f5.length ≤ 1048576) := by
  unfold laws_szTeamS.f
  rw [w64 (by omega) (by omega)]
  by_cases hb : 1048576 - (l.length : Int) < 0
  · exact ⟨-1, Ev.pos hb (Ev.now _), by omega, fun h => by omega⟩
  · obtain ⟨v, hv, hv1, hv2⟩ := szTeamS_l0 l (by omega) hi l.length 0 (1048576 - l.length) (by omega) (by omega) (by omega) (fun i h => by omega)
    exact ⟨v, Ev.neg hb hv, hv1, fun h => ⟨by omega, hv2 (by omega)⟩⟩
theorem toTeam_ev (x : S64) (h : x.f5.length ≤ 1099511627776) : Ev (fun k => laws_toTeam.f k x.f0 x.f1 x.f2 x.f3 x.f4 x.f5) (x.f0, x.f1, x.f2, x.f3, x.f4, x.f5) := by
  unfold laws_toTeam.f
  exact Ev.bind (toIntS_ev x.f5 h) (Ev.now _)
theorem toTeamS_l0 (l : List S64) (hl : l.length ≤ 1099511627776) (hi : ∀ x ∈ l, x.f5.length ≤ 1099511627776) : ∀ (d n : Nat) (xs : List Tm), n + d = l.length → xs.length = l.length → xs.take n = (l.map cvTm).take n → Ev (fun k => laws_toTeamS.l0 k l xs (n : Int)) (l.map cvTm) := by
  intro d
  induction d with
  | zero =>
    intro n xs hd hx ht
    refine Ev.step (fun k => laws_toTeamS.l0.eq_2 ..) ?_
    refine Ev.neg (by omega) (Ev.some_ ?_)
    rw [List.take_of_length_le (by omega), List.take_of_length_le (by simp; omega)] at ht
    exact ht
  | succ d ih =>
    intro n xs hd hx ht
    refine Ev.step (fun k => laws_toTeamS.l0.eq_2 ..) ?_
    refine Ev.pos (by omega) (Ev.pos (by omega) ?_)
    simp only [w64s (show n < 4611686018427387904 by omega), rdLTm (show n < l.length by omega), Int.toNat_natCast]
    refine Ev.bind (toTeam_ev l[n] (hi _ (List.getElem_mem _))) (Ev.pos (by omega) ?_)
    refine ih (n + 1) _ (by omega) (by simp [hx]) ?_
    rw [List.take_succ_eq_append_getElem (by simp; omega), List.take_succ_eq_append_getElem (by simp; omega), List.take_set_of_le (by omega), ht]
    simp [cvTm]
theorem toTeamS_ev (l : List S64) (hl : l.length ≤ 1099511627776) (hi : ∀ x ∈ l, x.f5.length ≤ 1099511627776) : Ev (fun k => laws_toTeamS.f k l) (l.map cvTm) := by
  unfold laws_toTeamS.f
  refine Ev.pos (by omega) (Ev.pos (by simp; omega) ?_)
  exact toTeamS_l0 l hl hi l.length 0 _ (by omega) (by simp) (by simp)
theorem small_map (l : List S64) (hl : l.length ≤ 1099511627776) (hi : ∀ x ∈ l, x.f5.length ≤ 1099511627776) : Small (l.map cvTm) := by
  refine ⟨by simpa using hl, fun x hx => ?_⟩
  obtain ⟨y, hy, rfl⟩ := List.mem_map.1 hx
  exact hi y hy
theorem eqTeam_ev (x : Tm) (h : x.f5.length ≤ 1099511627776) : Ev (fun k => laws_eqTeam.f k x.f0 x.f1 x.f2 x.f3 x.f4 x.f5 x.f0 x.f1 x.f2 x.f3 x.f4 x.f5) true := by
  unfold laws_eqTeam.f
  exact Ev.pos rfl (Ev.pos rfl (Ev.pos rfl (Ev.pos rfl (Ev.pos rfl (Ev.bind (eqIntS_ev _ _ h) (Ev.pos (by simp) (Ev.now _)))))))
theorem eqTeamS_l0 (l : List Tm) (hs : Small l) : ∀ (d n : Nat), n + d = l.length → Ev (fun k => laws_eqTeamS.l0 k l l (n : Int)) true := by
  have hl := hs.1
  intro d
  induction d with
  | zero =>
    intro n hd
    refine Ev.step (fun k => laws_eqTeamS.l0.eq_2 ..) ?_
    exact Ev.neg (by omega) (Ev.now _)
  | succ d ih =>
    intro n hd
    refine Ev.step (fun k => laws_eqTeamS.l0.eq_2 ..) ?_
    refine Ev.pos (by omega) (Ev.pos (by omega) (Ev.pos (by omega) ?_))
    simp only [w64s (show n < 4611686018427387904 by omega), rdTm (show n < l.length by omega)]
    exact Ev.bind (eqTeam_ev l[n] (hs.2 _ (List.getElem_mem _))) (Ev.pos rfl (ih (n + 1) (by omega)))
theorem eqTeamS_ev (l : List Tm) (hs : Small l) : Ev (fun k => laws_eqTeamS.f k l l) true := by
  unfold laws_eqTeamS.f
  exact Ev.pos rfl (eqTeamS_l0 l hs l.length 0 (by omega))
end Go.Proofs.Ytiimiogpiflkdaa.L

/- Teams: finding one, having met: what the printed functions come to. -/
set_option linter.unusedVariables false
set_option linter.unusedSimpArgs false
namespace Go.Proofs.Ytiimiogpiflkdaa.L
open Go Go.RowKit Go.Proofs.Ytiimiogpiflkdaa.A Go.Proofs.YtiimiogpiflkdaaW.PrintWords

def findT (l : List Tm) (id : Int) : Int := fidx (fun t => decide (t.f0 = id)) l
theorem iFindTeam_eq (l : List Tm) (id : Int) : impl_FindTeam.f l id = some (findT l id) := rfl
theorem fidx_cons {α : Type} (p : α → Bool) (x : α) (l : List α) : fidx p (x :: l) = if p x = true then 0 else if fidx p l < 0 then -1 else fidx p l + 1 := by
  unfold fidx
  rw [List.findIdx?_cons]
  by_cases h : p x = true
  · simp [h]
  · rw [if_neg h, if_neg h]
    cases l.findIdx? p with
    | none => simp
    | some i =>
      simp only [Option.map_some]
      rw [if_neg (by omega)]
      omega
theorem fidx_nil {α : Type} (p : α → Bool) : fidx p ([] : List α) = -1 := rfl
theorem fidx_range {α : Type} (p : α → Bool) : ∀ l : List α, -1 ≤ fidx p l ∧ fidx p l < l.length
  | [] => by simp [fidx_nil]
  | x :: l => by
    have := fidx_range p l
    rw [fidx_cons]
    simp only [List.length_cons]
    split
    · omega
    · split <;> omega
theorem fidx_at {α : Type} (p : α → Bool) (l : List α) (h : 0 ≤ fidx p l) : ∃ (hl : (fidx p l).toNat < l.length), p (l[(fidx p l).toNat]) = true := by
  unfold fidx at h ⊢
  cases e : l.findIdx? p with
  | none => rw [e] at h; simp at h
  | some i =>
    rw [List.findIdx?_eq_some_iff_getElem] at e
    obtain ⟨hi, hp, _⟩ := e
    exact ⟨by simpa using hi, by simpa using hp⟩
theorem fidx_neg {α : Type} (p : α → Bool) (l : List α) (h : fidx p l < 0) : ∀ x ∈ l, p x = false := by
  unfold fidx at h
  cases e : l.findIdx? p with
  | none =>
    rw [List.findIdx?_eq_none_iff] at e
    exact e
  | some i => rw [e] at h; simp at h; omega
theorem sFindTeam_l0 (l : List Tm) (id : Int) (hl : l.length ≤ 1099511627776) : ∀ (d n : Nat), n + d = l.length → Ev (fun k => spec_FindTeam.l0 k l id (n : Int)) (if findT (l.drop n) id < 0 then -1 else n + findT (l.drop n) id) := by
  intro d
  induction d with
  | zero =>
    intro n hd
    refine Ev.step (fun k => spec_FindTeam.l0.eq_2 ..) ?_
    refine Ev.neg (by omega) (Ev.some_ ?_)
    rw [List.drop_eq_nil_of_le (by omega)]
    simp [findT, fidx_nil]
  | succ d ih =>
    intro n hd
    refine Ev.step (fun k => spec_FindTeam.l0.eq_2 ..) ?_
    refine Ev.pos (by omega) (Ev.pos (by omega) ?_)
    simp only [w64s (show n < 4611686018427387904 by omega), rdTm (show n < l.length by omega)]
    have h1 := ih (n + 1) (by omega)
    rw [List.drop_eq_getElem_cons (show n < l.length by omega)]
    generalize l.drop (n + 1) = u at h1 ⊢
    have hr := fidx_range (fun t : Tm => decide (t.f0 = id)) u
    refine Ev.ite (fun h => Ev.some_ ?_) (fun h => Ev.cast h1 ?_)
    · simp [findT, fidx_cons, h]
    · have e : findT (l[n] :: u) id = if findT u id < 0 then -1 else findT u id + 1 := by
        unfold findT
        rw [fidx_cons, if_neg (by simpa using h)]
      rw [e]
      have hr' : -1 ≤ findT u id := hr.1
      by_cases hu : findT u id < 0
      · simp [hu]
      · have h2 : ¬ findT u id + 1 < 0 := by omega
        rw [if_neg hu, if_neg hu, if_neg h2]
        omega
theorem sFindTeam_ev (l : List Tm) (id : Int) (hl : l.length ≤ 1099511627776) : Ev (fun k => spec_FindTeam.f k l id) (findT l id) := by
  unfold spec_FindTeam.f
  refine Ev.cast (sFindTeam_l0 l id hl l.length 0 (by omega)) ?_
  have hr := fidx_range (fun t : Tm => decide (t.f0 = id)) l
  simp only [List.drop_zero]
  split
  · unfold findT at *
    omega
  · omega
theorem findT_range (l : List Tm) (id : Int) : -1 ≤ findT l id ∧ findT l id < l.length := fidx_range _ l
/-- The team found. -/
theorem rdTm_int {l : List Tm} {i : Int} (h0 : 0 ≤ i) (h1 : i < l.length) : ∃ h : i.toNat < l.length, rd_T61 l i = l[i.toNat] := by
  refine ⟨by omega, ?_⟩
  obtain ⟨m, rfl⟩ : ∃ m : Nat, i = m := ⟨i.toNat, by omega⟩
  rw [rdTm (by omega)]
  simp
theorem rdTm_mem {l : List Tm} {i : Int} (h0 : 0 ≤ i) (h1 : i < l.length) : rd_T61 l i ∈ l := by
  obtain ⟨h, e⟩ := rdTm_int h0 h1
  rw [e]
  exact List.getElem_mem _
end Go.Proofs.Ytiimiogpiflkdaa.L

/- How often a number is in a list: what the printed functions come to, for every list of at most 2^40 numbers. -/
set_option linter.unusedVariables false
set_option linter.unusedSimpArgs false
namespace Go.Proofs.Ytiimiogpiflkdaa.L
open Go Go.RowKit Go.Proofs.Ytiimiogpiflkdaa.A Go.Proofs.YtiimiogpiflkdaaW.PrintWords

theorem l19Count_l0 (l : List Int) (x : Int) (hl : l.length ≤ 1099511627776) : ∀ (d n c : Nat), n + d = l.length → c ≤ n → Ev (fun k => spec_l19Count.l0 k l x (c : Int) (n : Int)) ((c + (l.drop n).count x : Nat) : Int) := by
  intro d
  induction d with
  | zero =>
    intro n c hd hc
    refine Ev.step (fun k => spec_l19Count.l0.eq_2 ..) ?_
    refine Ev.neg (by omega) (Ev.some_ ?_)
    rw [List.drop_eq_nil_of_le (by omega)]
    simp
  | succ d ih =>
    intro n c hd hc
    refine Ev.step (fun k => spec_l19Count.l0.eq_2 ..) ?_
    refine Ev.pos (by omega) (Ev.pos (by omega) ?_)
    simp only [w64s (show n < 4611686018427387904 by omega), w64s (show c < 4611686018427387904 by omega), rd_at (show n < l.length by omega)]
    rw [List.drop_eq_getElem_cons (show n < l.length by omega), List.count_cons]
    refine Ev.ite (fun h => Ev.cast (ih (n + 1) (c + 1) (by omega) (by omega)) ?_) (fun h => Ev.cast (ih (n + 1) c (by omega) (by omega)) ?_)
    · simp only [h, beq_self_eq_true, if_true]
      omega
    · simp [h]
theorem l19Count_ev (l : List Int) (x : Int) (hl : l.length ≤ 1099511627776) : Ev (fun k => spec_l19Count.f k l x) (l.count x : Int) := by
  unfold spec_l19Count.f
  exact Ev.cast (l19Count_l0 l x hl l.length 0 0 (by omega) (by omega)) (by simp)
theorem times_l0 (l : List Int) (x : Int) (hl : l.length ≤ 1099511627776) : ∀ (d n c : Nat), n + d = l.length → c ≤ n → Ev (fun k => impl_times.l0 k x (c : Int) l (l.length : Int) (n : Int)) ((c + (l.drop n).count x : Nat) : Int) := by
  intro d
  induction d with
  | zero =>
    intro n c hd hc
    refine Ev.step (fun k => impl_times.l0.eq_2 ..) ?_
    refine Ev.neg (by omega) (Ev.some_ ?_)
    rw [List.drop_eq_nil_of_le (by omega)]
    simp
  | succ d ih =>
    intro n c hd hc
    refine Ev.step (fun k => impl_times.l0.eq_2 ..) ?_
    refine Ev.pos (by omega) (Ev.pos (by omega) (Ev.pos (by omega) ?_))
    simp only [w64s (show n < 4611686018427387904 by omega), w64s (show c < 4611686018427387904 by omega), rd_at (show n < l.length by omega)]
    rw [List.drop_eq_getElem_cons (show n < l.length by omega), List.count_cons]
    refine Ev.ite (fun h => Ev.cast (ih (n + 1) (c + 1) (by omega) (by omega)) ?_) (fun h => Ev.cast (ih (n + 1) c (by omega) (by omega)) ?_)
    · simp only [h, beq_self_eq_true, if_true]
      omega
    · simp [h]
theorem times_ev (l : List Int) (x : Int) (hl : l.length ≤ 1099511627776) : Ev (fun k => impl_times.f k l x) (l.count x : Int) := by
  unfold impl_times.f
  exact Ev.cast (times_l0 l x hl l.length 0 0 (by omega) (by omega)) (by simp)
end Go.Proofs.Ytiimiogpiflkdaa.L

/- The range test of the reference: for every list of at most 2^40 numbers. -/
set_option linter.unusedVariables false
set_option linter.unusedSimpArgs false
namespace Go.Proofs.Ytiimiogpiflkdaa.L
open Go Go.RowKit Go.Proofs.Ytiimiogpiflkdaa.A Go.Proofs.YtiimiogpiflkdaaW.PrintWords

theorem l1In_eq (a b c : Int) : spec_l1In.f a b c = some (inR a b c) := by
  unfold spec_l1In.f inR
  by_cases h : a ≥ b
  · rw [if_pos h]; congr 1; simp; omega
  · rw [if_neg h]; congr 1; simp; omega
end Go.Proofs.Ytiimiogpiflkdaa.L

/- The range test of the program: for every list of at most 2^40 numbers. -/
set_option linter.unusedVariables false
set_option linter.unusedSimpArgs false
namespace Go.Proofs.Ytiimiogpiflkdaa.L
open Go Go.RowKit Go.Proofs.Ytiimiogpiflkdaa.A Go.Proofs.YtiimiogpiflkdaaW.PrintWords

theorem InRange_eq (a b c : Int) : impl_InRange.f a b c = some (inR a b c) := by
  unfold impl_InRange.f inR
  by_cases h : b ≤ a
  · rw [if_pos h]; congr 1; simp; omega
  · rw [if_neg h]; congr 1; simp; omega
end Go.Proofs.Ytiimiogpiflkdaa.L

/- Whether they are teams: what the printed functions come to, for every small list of teams. -/
set_option linter.unusedVariables false
set_option linter.unusedSimpArgs false
namespace Go.Proofs.Ytiimiogpiflkdaa.L
open Go Go.RowKit Go.Proofs.Ytiimiogpiflkdaa.A Go.Proofs.YtiimiogpiflkdaaW.PrintWords

abbrev rdT (l : List Tm) (i : Int) : Tm := rd_T61 l i
def rowT (l : List Tm) (n : Int) : Bool :=
  inR (rdT l n).f0 1 99 && inR (rdT l n).f1 1 99 && inR (rdT l n).f2 0 ((rdT l n).f5.length : Int) && inR (rdT l n).f4 0 ((rdT l n).f5.length : Int) && inR (rdT l n).f3 0 100000 && decide (¬ ((rdT l n).f5.length : Int) > 20) && decide (¬ (n > 0 ∧ (rdT l (n - 1)).f0 ≥ (rdT l n).f0))
def metB (l : List Tm) (n : Int) (id : Int) : Bool := decide (0 ≤ findT l id ∧ findT l id ≠ n ∧ (((rdT l (findT l id)).f5.count (rdT l n).f0 : Nat) : Int) = (((rdT l n).f5.count id : Nat) : Int))
def okT (l : List Tm) (n : Int) : Bool := rowT l n && (rdT l n).f5.all (metB l n)
def tlT (l : List Tm) : Nat → Nat → Bool
  | 0, _ => decide (l.length ≤ 10)
  | d + 1, n => okT l n && tlT l d (n + 1)
/-- The plain answer. -/
def areT (l : List Tm) : Bool := tlT l l.length 0
theorem findT_id {l : List Tm} {id : Int} (h : 0 ≤ findT l id) : (rdT l (findT l id)).f0 = id := by
  obtain ⟨hl, hp⟩ := fidx_at (fun t : Tm => decide (t.f0 = id)) l h
  obtain ⟨_, e⟩ := rdTm_int h (findT_range l id).2
  show (rd_T61 l (findT l id)).f0 = id
  rw [e]
  exact of_decide_eq_true hp
theorem sAre_jt (l : List Tm) (n a b c d e : Int) (f : List Int) : Ev (fun k => spec_AreTeams.j1 k l n true a b c d e f) false :=
  Ev.step (fun k => spec_AreTeams.j1.eq_2 ..) (Ev.pos rfl (Ev.now _))
theorem sAre_l1 (l : List Tm) (hs : Small l) (n : Nat) (hn : n < l.length) (r : Bool) (hk : Ev (fun k => spec_AreTeams.l0 k l ((n + 1 : Nat) : Int)) r) : ∀ (d m : Nat), m + d = (rdT l n).f5.length → Ev (fun k => spec_AreTeams.l1 k l (n : Int) (m : Int) (rdT l n).f0 (rdT l n).f1 (rdT l n).f2 (rdT l n).f3 (rdT l n).f4 (rdT l n).f5) ((((rdT l n).f5.drop m).all (metB l n)) && r) := by
  have hlen := hs.1
  have hmet : (rdT l n).f5.length ≤ 1099511627776 := hs.2 _ (rdTm_mem (by omega) (by omega))
  intro d
  induction d with
  | zero =>
    intro m hd
    refine Ev.step (fun k => spec_AreTeams.l1.eq_2 ..) ?_
    refine Ev.neg (by omega) ?_
    simp only [w64s (show n < 4611686018427387904 by omega)]
    rw [List.drop_eq_nil_of_le (by omega)]
    exact Ev.cast hk (by simp)
  | succ d ih =>
    intro m hd
    refine Ev.step (fun k => spec_AreTeams.l1.eq_2 ..) ?_
    refine Ev.pos (by omega) (Ev.pos (by omega) ?_)
    have hm : m < (rdT l n).f5.length := by omega
    simp only [w64s (show m < 4611686018427387904 by omega), rd_at hm]
    rw [List.drop_eq_getElem_cons hm, List.all_cons]
    generalize hid : (rdT l n).f5[m] = id
    have hr := findT_range l id
    refine Ev.bind (sFindTeam_ev l id hs.1) ?_
    refine Ev.ite (fun h => Ev.some_ (by simp only [metB]; rw [decide_eq_false (fun h2 => by omega)]; rfl)) (fun h => ?_)
    refine Ev.ite (fun h1 => Ev.some_ (by simp only [metB]; rw [decide_eq_false (fun h2 => h2.2.1 h1)]; rfl)) (fun h1 => ?_)
    refine Ev.pos (by omega) (Ev.pos hr.2 ?_)
    have hm2 : (rdT l (findT l id)).f5.length ≤ 1099511627776 := hs.2 _ (rdTm_mem (by omega) hr.2)
    refine Ev.bind (l19Count_ev _ _ hm2) (Ev.bind (l19Count_ev _ _ hmet) ?_)
    have hfid : (rd_T61 l (findT l id)).f0 = id := findT_id (by omega)
    simp only [hfid]
    refine Ev.ite (fun h2 => Ev.cast (ih (m + 1) (by omega)) ?_) (fun h2 => Ev.some_ ?_)
    · have : metB l n id = true := by simp only [metB]; exact decide_eq_true ⟨by omega, h1, h2⟩
      rw [this, Bool.true_and]
    · have : metB l n id = false := by simp only [metB]; exact decide_eq_false (fun h3 => h2 h3.2.2)
      rw [this]
      rfl
theorem sAre_jf (l : List Tm) (hs : Small l) (n : Nat) (hn : n < l.length) (r : Bool) (hk : Ev (fun k => spec_AreTeams.l0 k l ((n + 1 : Nat) : Int)) r) : Ev (fun k => spec_AreTeams.j1 k l (n : Int) false (rdT l n).f0 (rdT l n).f1 (rdT l n).f2 (rdT l n).f3 (rdT l n).f4 (rdT l n).f5) ((rdT l n).f5.all (metB l n) && r) :=
  Ev.step (fun k => spec_AreTeams.j1.eq_2 ..) (Ev.neg (by decide) (sAre_l1 l hs n hn r hk (rdT l n).f5.length 0 (by omega)))
theorem sAre_row (l : List Tm) (hs : Small l) (n : Nat) (hn : n < l.length) (r : Bool) (hk : Ev (fun k => spec_AreTeams.l0 k l ((n + 1 : Nat) : Int)) r) : Ev (fun k => spec_AreTeams.l0 k l (n : Int)) (okT l n && r) := by
  have hlen := hs.1
  have J := sAre_jf l hs n hn r hk
  refine Ev.step (fun k => spec_AreTeams.l0.eq_2 ..) (Ev.pos (by omega) (Ev.pos (by omega) ?_))
  refine Ev.bnd (l1In_eq _ _ _) ?_
  by_cases h1 : inR (rdT l n).f0 1 99 = true
  rotate_left
  · exact Ev.cast (Ev.neg h1 (sAre_jt ..)) (by simp [okT, rowT, h1])
  refine Ev.pos h1 (Ev.bnd (l1In_eq _ _ _) ?_)
  by_cases h2 : inR (rdT l n).f1 1 99 = true
  rotate_left
  · exact Ev.cast (Ev.neg h2 (sAre_jt ..)) (by simp [okT, rowT, h2])
  refine Ev.pos h2 (Ev.bnd (l1In_eq _ _ _) ?_)
  by_cases h3 : inR (rdT l n).f2 0 ((rdT l n).f5.length : Int) = true
  rotate_left
  · exact Ev.cast (Ev.neg h3 (sAre_jt ..)) (by simp [okT, rowT, h3])
  refine Ev.pos h3 (Ev.bnd (l1In_eq _ _ _) ?_)
  by_cases h4 : inR (rdT l n).f4 0 ((rdT l n).f5.length : Int) = true
  rotate_left
  · exact Ev.cast (Ev.neg h4 (sAre_jt ..)) (by simp [okT, rowT, h4])
  refine Ev.pos h4 (Ev.bnd (l1In_eq _ _ _) ?_)
  by_cases h5 : inR (rdT l n).f3 0 100000 = true
  rotate_left
  · exact Ev.cast (Ev.neg h5 (sAre_jt ..)) (by simp [okT, rowT, h5])
  refine Ev.pos h5 ?_
  by_cases h6 : ((rdT l n).f5.length : Int) > 20
  · refine Ev.cast (Ev.pos h6 (sAre_jt ..)) ?_
    have : decide (¬ ((rdT l n).f5.length : Int) > 20) = false := decide_eq_false (fun h => h h6)
    simp only [okT, rowT, this, Bool.and_false, Bool.false_and]
  refine Ev.neg h6 ?_
  have d6 : decide (¬ ((rdT l n).f5.length : Int) > 20) = true := decide_eq_true h6
  by_cases h7 : (n : Int) > 0
  · refine Ev.pos h7 ?_
    simp only [w64 (show -9223372036854775808 ≤ (n : Int) - 1 by omega) (show (n : Int) - 1 ≤ 9223372036854775807 by omega)]
    refine Ev.pos (by omega) (Ev.pos (by omega) ?_)
    by_cases h8 : (rdT l ((n : Int) - 1)).f0 ≥ (rdT l n).f0
    · have e8 : decide ((rd_T61 l ((n : Int) - 1)).f0 ≥ (rd_T61 l n).f0) = true := decide_eq_true h8
      simp only [e8]
      refine Ev.cast (sAre_jt ..) ?_
      have : decide (¬ ((n : Int) > 0 ∧ (rdT l ((n : Int) - 1)).f0 ≥ (rdT l n).f0)) = false := decide_eq_false (fun h => h ⟨h7, h8⟩)
      simp only [okT, rowT, this, Bool.and_false, Bool.false_and]
    · have e8 : decide ((rd_T61 l ((n : Int) - 1)).f0 ≥ (rd_T61 l n).f0) = false := decide_eq_false h8
      simp only [e8]
      refine Ev.cast J ?_
      have : decide (¬ ((n : Int) > 0 ∧ (rdT l ((n : Int) - 1)).f0 ≥ (rdT l n).f0)) = true := decide_eq_true (fun h => h8 h.2)
      simp only [okT, rowT, this, d6, h1, h2, h3, h4, h5, Bool.and_true, Bool.true_and]
  · refine Ev.cast (Ev.neg h7 J) ?_
    have : decide (¬ ((n : Int) > 0 ∧ (rdT l ((n : Int) - 1)).f0 ≥ (rdT l n).f0)) = true := decide_eq_true (fun h => h7 h.1)
    simp only [okT, rowT, this, d6, h1, h2, h3, h4, h5, Bool.and_true, Bool.true_and]
theorem sAre_l0 (l : List Tm) (hs : Small l) : ∀ (d n : Nat), n + d = l.length → Ev (fun k => spec_AreTeams.l0 k l (n : Int)) (tlT l d n) := by
  intro d
  induction d with
  | zero =>
    intro n hd
    refine Ev.step (fun k => spec_AreTeams.l0.eq_2 ..) (Ev.neg (by omega) (Ev.some_ ?_))
    simp only [tlT]
    congr 1
    simp only [eq_iff_iff]
    omega
  | succ d ih =>
    intro n hd
    exact sAre_row l hs n (by omega) _ (ih (n + 1) (by omega))
theorem sAreTeams_ev (l : List Tm) (hs : Small l) : Ev (fun k => spec_AreTeams.f k l) (areT l) := by
  unfold spec_AreTeams.f
  exact sAre_l0 l hs l.length 0 (by omega)
/-- Ascending so far. -/
def ascT (l : List Tm) (n : Nat) : Prop := ∀ i : Nat, i < n → (rdT l i).f0 < (rdT l (i + 1 : Nat)).f0
theorem ascT_lt {l : List Tm} {n : Nat} (h : ascT l n) : ∀ (j i : Nat), i < j → j ≤ n → (rdT l i).f0 < (rdT l j).f0 := by
  intro j
  induction j with
  | zero => intro i hi; omega
  | succ j ih =>
    intro i hi hj
    have h1 := h j (by omega)
    by_cases e : i = j
    · subst e
      exact h1
    · have := ih i (by omega) (by omega)
      omega
theorem findT_self {l : List Tm} {n : Nat} (h : ascT l n) (hn : n < l.length) : findT l (rdT l n).f0 = n := by
  have e : l.findIdx? (fun t : Tm => decide (t.f0 = (rdT l n).f0)) = some n := by
    rw [List.findIdx?_eq_some_iff_getElem]
    refine ⟨hn, by simp [rdT, rdTm hn], fun j hj => ?_⟩
    have := ascT_lt h n j hj (Nat.le_refl _)
    rw [rdT, rdTm (show j < l.length by omega)] at this
    simp only [decide_eq_true_eq]
    omega
  unfold findT fidx
  rw [e]
theorem iAre_jt (l x : List Tm) (p n a b c d e : Int) (f : List Int) : Ev (fun k => impl_AreTeams.j1 k l x p n true a b c d e f) false :=
  Ev.step (fun k => impl_AreTeams.j1.eq_2 ..) (Ev.pos rfl (Ev.now _))
theorem iAre_l1 (l : List Tm) (hs : Small l) (n : Nat) (hn : n < l.length) (ha : ascT l n) (r : Bool) (hk : Ev (fun k => impl_AreTeams.l0 k l l (l.length : Int) ((n + 1 : Nat) : Int)) r) : ∀ (d m : Nat), m + d = (rdT l n).f5.length → Ev (fun k => impl_AreTeams.l1 k l l (l.length : Int) (n : Int) (rdT l n).f5 ((rdT l n).f5.length : Int) (m : Int) (rdT l n).f0 (rdT l n).f1 (rdT l n).f2 (rdT l n).f3 (rdT l n).f4 (rdT l n).f5) ((((rdT l n).f5.drop m).all (metB l n)) && r) := by
  have hlen := hs.1
  have hmet : (rdT l n).f5.length ≤ 1099511627776 := hs.2 _ (rdTm_mem (by omega) (by omega))
  intro d
  induction d with
  | zero =>
    intro m hd
    refine Ev.step (fun k => impl_AreTeams.l1.eq_2 ..) ?_
    refine Ev.neg (by omega) ?_
    simp only [w64s (show n < 4611686018427387904 by omega)]
    rw [List.drop_eq_nil_of_le (by omega)]
    exact Ev.cast hk (by simp)
  | succ d ih =>
    intro m hd
    refine Ev.step (fun k => impl_AreTeams.l1.eq_2 ..) ?_
    refine Ev.pos (by omega) (Ev.pos (by omega) (Ev.pos (by omega) ?_))
    have hm : m < (rdT l n).f5.length := by omega
    simp only [w64s (show m < 4611686018427387904 by omega), rd_at hm]
    rw [List.drop_eq_getElem_cons hm, List.all_cons]
    generalize hid : (rdT l n).f5[m] = id
    have hr := findT_range l id
    have hself := findT_self ha hn
    refine Ev.bnd (iFindTeam_eq l id) ?_
    refine Ev.ite (fun h => Ev.some_ (by simp only [metB]; rw [decide_eq_false (fun h2 => by omega)]; rfl)) (fun h => ?_)
    refine Ev.ite (fun h1 => Ev.some_ (by simp only [metB]; rw [decide_eq_false (fun h2 => h2.2.1 (by rw [h1]; exact hself))]; rfl)) (fun h1 => ?_)
    have hfid : (rd_T61 l (findT l id)).f0 = id := findT_id (by omega)
    have h1' : findT l id ≠ n := fun e => h1 (by rw [← hfid, e])
    refine Ev.bind (times_ev _ _ hmet) (Ev.pos (by omega) (Ev.pos hr.2 ?_))
    have hm2 : (rdT l (findT l id)).f5.length ≤ 1099511627776 := hs.2 _ (rdTm_mem (by omega) hr.2)
    refine Ev.bind (times_ev _ _ hm2) ?_
    refine Ev.ite (fun h2 => Ev.cast (ih (m + 1) (by omega)) ?_) (fun h2 => Ev.some_ ?_)
    · have : metB l n id = true := by simp only [metB]; exact decide_eq_true ⟨by omega, h1', h2.symm⟩
      rw [this, Bool.true_and]
    · have : metB l n id = false := by simp only [metB]; exact decide_eq_false (fun h3 => h2 h3.2.2.symm)
      rw [this]
      rfl
theorem iAre_jf (l : List Tm) (hs : Small l) (n : Nat) (hn : n < l.length) (ha : ascT l n) (r : Bool) (hk : Ev (fun k => impl_AreTeams.l0 k l l (l.length : Int) ((n + 1 : Nat) : Int)) r) : Ev (fun k => impl_AreTeams.j1 k l l (l.length : Int) (n : Int) false (rdT l n).f0 (rdT l n).f1 (rdT l n).f2 (rdT l n).f3 (rdT l n).f4 (rdT l n).f5) ((rdT l n).f5.all (metB l n) && r) :=
  Ev.step (fun k => impl_AreTeams.j1.eq_2 ..) (Ev.neg (by decide) (iAre_l1 l hs n hn ha r hk (rdT l n).f5.length 0 (by omega)))
theorem iAre_rest (l : List Tm) (hs : Small l) (n : Nat) (hn : n < l.length) (ha : ascT l n) (r : Bool) (hk : Ev (fun k => impl_AreTeams.l0 k l l (l.length : Int) ((n + 1 : Nat) : Int)) r)
    (h1 : inR (rdT l n).f0 1 99 = true) (h7 : decide (¬ ((n : Int) > 0 ∧ (rdT l ((n : Int) - 1)).f0 ≥ (rdT l n).f0)) = true) : Ev (fun k => (impl_InRange.f (rdT l n).f1 1 99).bind fun t171 => (if t171 = true then (if ((rdT l n).f5.length : Int) > 20 then (impl_AreTeams.j1 k l l (l.length : Int) n true (rdT l n).f0 (rdT l n).f1 (rdT l n).f2 (rdT l n).f3 (rdT l n).f4 (rdT l n).f5) else ((impl_InRange.f (rdT l n).f2 0 ((rdT l n).f5.length : Int)).bind fun t172 => (if t172 = true then ((impl_InRange.f (rdT l n).f4 0 ((rdT l n).f5.length : Int)).bind fun t173 => (if t173 = true then ((impl_InRange.f (rdT l n).f3 0 100000).bind fun t174 => (impl_AreTeams.j1 k l l (l.length : Int) n (!t174) (rdT l n).f0 (rdT l n).f1 (rdT l n).f2 (rdT l n).f3 (rdT l n).f4 (rdT l n).f5)) else (impl_AreTeams.j1 k l l (l.length : Int) n true (rdT l n).f0 (rdT l n).f1 (rdT l n).f2 (rdT l n).f3 (rdT l n).f4 (rdT l n).f5))) else (impl_AreTeams.j1 k l l (l.length : Int) n true (rdT l n).f0 (rdT l n).f1 (rdT l n).f2 (rdT l n).f3 (rdT l n).f4 (rdT l n).f5)))) else (impl_AreTeams.j1 k l l (l.length : Int) n true (rdT l n).f0 (rdT l n).f1 (rdT l n).f2 (rdT l n).f3 (rdT l n).f4 (rdT l n).f5))) (okT l n && r) := by
  have J := iAre_jf l hs n hn ha r hk
  refine Ev.bnd (InRange_eq _ _ _) ?_
  by_cases h2 : inR (rdT l n).f1 1 99 = true
  rotate_left
  · exact Ev.cast (Ev.neg h2 (iAre_jt ..)) (by simp [okT, rowT, h2])
  refine Ev.pos h2 ?_
  by_cases h6 : ((rdT l n).f5.length : Int) > 20
  · refine Ev.cast (Ev.pos h6 (iAre_jt ..)) ?_
    have : decide (¬ ((rdT l n).f5.length : Int) > 20) = false := decide_eq_false (fun h => h h6)
    simp only [okT, rowT, this, Bool.and_false, Bool.false_and]
  have d6 : decide (¬ ((rdT l n).f5.length : Int) > 20) = true := decide_eq_true h6
  refine Ev.neg h6 (Ev.bnd (InRange_eq _ _ _) ?_)
  by_cases h3 : inR (rdT l n).f2 0 ((rdT l n).f5.length : Int) = true
  rotate_left
  · exact Ev.cast (Ev.neg h3 (iAre_jt ..)) (by simp [okT, rowT, h3])
  refine Ev.pos h3 (Ev.bnd (InRange_eq _ _ _) ?_)
  by_cases h4 : inR (rdT l n).f4 0 ((rdT l n).f5.length : Int) = true
  rotate_left
  · exact Ev.cast (Ev.neg h4 (iAre_jt ..)) (by simp [okT, rowT, h4])
  refine Ev.pos h4 (Ev.bnd (InRange_eq _ _ _) ?_)
  by_cases h5 : inR (rdT l n).f3 0 100000 = true
  · simp only [h5, Bool.not_true]
    refine Ev.cast J ?_
    simp only [okT, rowT, h7, d6, h1, h2, h3, h4, h5, Bool.and_true, Bool.true_and]
  · rw [Bool.not_eq_true] at h5
    simp only [h5, Bool.not_false]
    exact Ev.cast (iAre_jt ..) (by simp [okT, rowT, h5])
theorem iAre_row (l : List Tm) (hs : Small l) (n : Nat) (hn : n < l.length) (ha : ascT l (n - 1)) (r : Bool) (hk : ascT l n → Ev (fun k => impl_AreTeams.l0 k l l (l.length : Int) ((n + 1 : Nat) : Int)) r) : Ev (fun k => impl_AreTeams.l0 k l l (l.length : Int) (n : Int)) (okT l n && r) := by
  have hlen := hs.1
  refine Ev.step (fun k => impl_AreTeams.l0.eq_2 ..) (Ev.pos (by omega) (Ev.pos (by omega) (Ev.pos (by omega) ?_)))
  refine Ev.bnd (InRange_eq _ _ _) ?_
  by_cases h1 : inR (rdT l n).f0 1 99 = true
  rotate_left
  · exact Ev.cast (Ev.neg h1 (iAre_jt ..)) (by simp [okT, rowT, h1])
  refine Ev.pos h1 ?_
  by_cases h7 : (n : Int) > 0
  · refine Ev.pos h7 ?_
    simp only [w64 (show -9223372036854775808 ≤ (n : Int) - 1 by omega) (show (n : Int) - 1 ≤ 9223372036854775807 by omega)]
    refine Ev.pos (by omega) (Ev.pos (by omega) ?_)
    by_cases h8 : (rdT l n).f0 ≤ (rdT l ((n : Int) - 1)).f0
    · refine Ev.cast (Ev.pos h8 (iAre_jt ..)) ?_
      have : decide (¬ ((n : Int) > 0 ∧ (rdT l ((n : Int) - 1)).f0 ≥ (rdT l n).f0)) = false := decide_eq_false (fun h => h ⟨h7, h8⟩)
      simp only [okT, rowT, this, Bool.and_false, Bool.false_and]
    · have ha' : ascT l n := by
        intro i hi
        by_cases e : i = n - 1
        · subst e
          have e1 : ((n - 1 : Nat) : Int) = (n : Int) - 1 := by omega
          have e2 : n - 1 + 1 = n := by omega
          rw [e1, e2]
          omega
        · exact ha i (by omega)
      exact Ev.neg h8 (iAre_rest l hs n hn ha' r (hk ha') h1 (decide_eq_true (fun h => h8 h.2)))
  · have ha' : ascT l n := fun i hi => by omega
    exact Ev.neg h7 (iAre_rest l hs n hn ha' r (hk ha') h1 (decide_eq_true (fun h => h7 h.1)))
theorem iAre_l0 (l : List Tm) (hs : Small l) (h10 : l.length ≤ 10) : ∀ (d n : Nat), n + d = l.length → ascT l (n - 1) → Ev (fun k => impl_AreTeams.l0 k l l (l.length : Int) (n : Int)) (tlT l d n) := by
  intro d
  induction d with
  | zero =>
    intro n hd ha
    refine Ev.step (fun k => impl_AreTeams.l0.eq_2 ..) (Ev.neg (by omega) (Ev.some_ ?_))
    simp only [tlT]
    exact (decide_eq_true h10).symm
  | succ d ih =>
    intro n hd ha
    exact iAre_row l hs n (by omega) ha _ (fun ha' => ih (n + 1) (by omega) (by simpa using ha'))
theorem tlT_big (l : List Tm) (h : ¬ l.length ≤ 10) : ∀ (d n : Nat), tlT l d n = false
  | 0, _ => decide_eq_false h
  | d + 1, n => by simp only [tlT, tlT_big l h d (n + 1), Bool.and_false]
theorem iAreTeams_ev (l : List Tm) (hs : Small l) : Ev (fun k => impl_AreTeams.f k l) (areT l) := by
  unfold impl_AreTeams.f
  refine Ev.ite (fun h => Ev.some_ (tlT_big l (by omega) _ _).symm) (fun h => ?_)
  exact iAre_l0 l hs (by omega) l.length 0 (by omega) (fun i hi => by omega)
end Go.Proofs.Ytiimiogpiflkdaa.L

/- slices.Index and slices.Contains: for every list of at most 2^40 numbers. -/
set_option linter.unusedVariables false
set_option linter.unusedSimpArgs false
namespace Go.Proofs.Ytiimiogpiflkdaa.L
open Go Go.RowKit Go.Proofs.Ytiimiogpiflkdaa.A Go.Proofs.YtiimiogpiflkdaaW.PrintWords

theorem Index_l0 (l : List Int) (x : Int) (hl : l.length ≤ 1099511627776) : ∀ (d n : Nat), n + d = l.length → Ev (fun k => slices_Index_int_int.l0 k l x (l.length : Int) (n : Int)) (if x ∈ l.drop n then ((n + (l.drop n).idxOf x : Nat) : Int) else -1) := by
  intro d
  induction d with
  | zero =>
    intro n hd
    refine Ev.step (fun k => slices_Index_int_int.l0.eq_2 ..) ?_
    refine Ev.neg (by omega) (Ev.some_ ?_)
    rw [List.drop_eq_nil_of_le (by omega)]
    simp
  | succ d ih =>
    intro n hd
    refine Ev.step (fun k => slices_Index_int_int.l0.eq_2 ..) ?_
    refine Ev.pos (by omega) (Ev.pos (by omega) (Ev.pos (by omega) ?_))
    simp only [w64s (show n < 4611686018427387904 by omega), rd_at (show n < l.length by omega)]
    have h1 := ih (n + 1) (by omega)
    rw [List.drop_eq_getElem_cons (show n < l.length by omega)]
    generalize l.drop (n + 1) = u at h1 ⊢
    refine Ev.ite (fun h => Ev.some_ ?_) (fun h => Ev.cast h1 ?_)
    · simp [h]
    · have h' : ¬ l[n] = x := fun e => h e.symm
      simp only [List.mem_cons, h, false_or, List.idxOf_cons, beq_eq_false_iff_ne.2 h']
      split
      · simp; omega
      · rfl
/-- slices.Index. -/
def idx (l : List Int) (x : Int) : Int := if x ∈ l then (l.idxOf x : Int) else -1
theorem Index_ev (l : List Int) (x : Int) (hl : l.length ≤ 1099511627776) : Ev (fun k => slices_Index_int_int.f k l x) (idx l x) := by
  unfold slices_Index_int_int.f
  refine Ev.cast (Index_l0 l x hl l.length 0 (by omega)) ?_
  simp [idx]
theorem Contains_ev (l : List Int) (x : Int) (hl : l.length ≤ 1099511627776) : Ev (fun k => slices_Contains_int_int.f k l x) (decide (x ∈ l)) := by
  unfold slices_Contains_int_int.f
  refine Ev.bind (Index_ev l x hl) (Ev.some_ ?_)
  unfold idx
  by_cases h : x ∈ l
  · simp [h]
  · simp [h]
end Go.Proofs.Ytiimiogpiflkdaa.L

/- Looking through a slice of whole numbers, as the reference does it: for every list of at most 2^40 numbers. -/
set_option linter.unusedVariables false
set_option linter.unusedSimpArgs false
namespace Go.Proofs.Ytiimiogpiflkdaa.L
open Go Go.RowKit Go.Proofs.Ytiimiogpiflkdaa.A Go.Proofs.YtiimiogpiflkdaaW.PrintWords

theorem l4Has_l0 (l : List Int) (x : Int) (hl : l.length ≤ 1099511627776) : ∀ (d n : Nat), n + d = l.length → Ev (fun k => spec_l4Has.l0 k l x (n : Int)) (decide (x ∈ l.drop n)) := by
  intro d
  induction d with
  | zero =>
    intro n hd
    refine Ev.step (fun k => spec_l4Has.l0.eq_2 ..) ?_
    refine Ev.neg (by omega) (Ev.some_ ?_)
    rw [List.drop_eq_nil_of_le (by omega)]
    simp
  | succ d ih =>
    intro n hd
    refine Ev.step (fun k => spec_l4Has.l0.eq_2 ..) ?_
    refine Ev.pos (by omega) (Ev.pos (by omega) ?_)
    simp only [w64s (show n < 4611686018427387904 by omega), rd_at (show n < l.length by omega)]
    have h1 := ih (n + 1) (by omega)
    rw [List.drop_eq_getElem_cons (show n < l.length by omega)]
    generalize l.drop (n + 1) = u at h1 ⊢
    refine Ev.ite (fun h => Ev.some_ ?_) (fun h => Ev.cast h1 ?_)
    · simp [h]
    · have h' : ¬ x = l[n] := fun e => h e.symm
      simp [h']
theorem l4Has_ev (l : List Int) (x : Int) (hl : l.length ≤ 1099511627776) : Ev (fun k => spec_l4Has.f k l x) (decide (x ∈ l)) := by
  unfold spec_l4Has.f
  exact Ev.cast (l4Has_l0 l x hl l.length 0 (by omega)) (by simp)
end Go.Proofs.Ytiimiogpiflkdaa.L

/- Teams: having met: what the printed functions come to. -/
set_option linter.unusedVariables false
set_option linter.unusedSimpArgs false
namespace Go.Proofs.Ytiimiogpiflkdaa.L
open Go Go.RowKit Go.Proofs.Ytiimiogpiflkdaa.A Go.Proofs.YtiimiogpiflkdaaW.PrintWords

def metT (l : List Tm) (a b : Int) : Bool := decide (0 ≤ findT l a ∧ b ∈ (rd_T61 l (findT l a)).f5)
theorem sHaveMet_ev (l : List Tm) (a b : Int) (hs : Small l) : Ev (fun k => spec_HaveMet.f k l a b) (metT l a b) := by
  unfold spec_HaveMet.f metT
  have hr := findT_range l a
  refine Ev.bind (sFindTeam_ev l a hs.1) (Ev.ite (fun h => Ev.pos (by omega) (Ev.pos hr.2 (Ev.bind (l4Has_ev _ b (hs.2 _ (rdTm_mem (by omega) hr.2))) (Ev.some_ ?_)))) (fun h => Ev.some_ ?_))
  · have : 0 ≤ findT l a := by omega
    simp [this]
  · have : ¬ 0 ≤ findT l a := by omega
    simp [this]
theorem iHaveMet_ev (l : List Tm) (a b : Int) (hs : Small l) : Ev (fun k => impl_HaveMet.f k l a b) (metT l a b) := by
  unfold impl_HaveMet.f metT
  have hr := findT_range l a
  refine Ev.bnd (iFindTeam_eq l a) (Ev.ite (fun h => Ev.pos (by omega) (Ev.pos hr.2 (Ev.bind (Contains_ev _ b (hs.2 _ (rdTm_mem (by omega) hr.2))) (Ev.some_ ?_)))) (fun h => Ev.some_ ?_))
  · have : 0 ≤ findT l a := by omega
    simp [this]
  · have : ¬ 0 ≤ findT l a := by omega
    simp [this]
end Go.Proofs.Ytiimiogpiflkdaa.L

/- Whether two teams may meet: what the printed functions come to, for every small list of teams. -/
set_option linter.unusedVariables false
set_option linter.unusedSimpArgs false
namespace Go.Proofs.Ytiimiogpiflkdaa.L
open Go Go.RowKit Go.Proofs.Ytiimiogpiflkdaa.A Go.Proofs.YtiimiogpiflkdaaW.PrintWords

def mayT (l : List Tm) (a b : Int) : Bool :=
  areT l && decide (0 ≤ findT l a) && decide (0 ≤ findT l b) && decide (findT l a ≠ findT l b) && decide ((rdT l (findT l a)).f1 ≠ (rdT l (findT l b)).f1) && !metT l a b
theorem mayT_iff {l : List Tm} {a b : Int} : mayT l a b = true ↔ areT l = true ∧ 0 ≤ findT l a ∧ 0 ≤ findT l b ∧ findT l a ≠ findT l b ∧ (rdT l (findT l a)).f1 ≠ (rdT l (findT l b)).f1 ∧ metT l a b = false := by
  simp only [mayT, Bool.and_eq_true, decide_eq_true_eq, Bool.not_eq_true', and_assoc]
theorem mayT_neg {l : List Tm} {a b : Int} (h : ¬ (areT l = true ∧ 0 ≤ findT l a ∧ 0 ≤ findT l b ∧ findT l a ≠ findT l b ∧ (rdT l (findT l a)).f1 ≠ (rdT l (findT l b)).f1 ∧ metT l a b = false)) : false = mayT l a b := by
  rw [← mayT_iff, Bool.not_eq_true] at h
  exact h.symm
theorem sMayMeet_ev (l : List Tm) (a b : Int) (hs : Small l) : Ev (fun k => spec_MayMeet.f k l a b) (mayT l a b) := by
  unfold spec_MayMeet.f
  have ha := findT_range l a
  have hb := findT_range l b
  refine Ev.bind (sFindTeam_ev l a hs.1) (Ev.bind (sFindTeam_ev l b hs.1) (Ev.bind (sAreTeams_ev l hs) ?_))
  refine Ev.ite (fun h1 => ?_) (fun h1 => Ev.some_ (mayT_neg (fun h => h1 h.1)))
  refine Ev.ite (fun h2 => ?_) (fun h2 => Ev.some_ (mayT_neg (fun h => h2 h.2.1)))
  refine Ev.ite (fun h3 => ?_) (fun h3 => Ev.some_ (mayT_neg (fun h => h3 h.2.2.1)))
  refine Ev.ite (fun h4 => Ev.some_ (mayT_neg (fun h => h.2.2.2.1 h4))) (fun h4 => ?_)
  refine Ev.pos (by omega) (Ev.pos ha.2 (Ev.pos (by omega) (Ev.pos hb.2 ?_)))
  refine Ev.ite (fun h5 => Ev.some_ (mayT_neg (fun h => h.2.2.2.2.1 h5))) (fun h5 => ?_)
  refine Ev.bind (sHaveMet_ev l a b hs) (Ev.some_ ?_)
  cases h6 : metT l a b
  · exact (mayT_iff.2 ⟨h1, h2, h3, h4, h5, h6⟩).symm
  · exact mayT_neg (fun h => by simp [h6] at h)
theorem iMayMeet_ev (l : List Tm) (a b : Int) (hs : Small l) : Ev (fun k => impl_MayMeet.f k l a b) (mayT l a b) := by
  unfold impl_MayMeet.f
  have ha := findT_range l a
  have hb := findT_range l b
  refine Ev.bnd (iFindTeam_eq l a) (Ev.bnd (iFindTeam_eq l b) (Ev.bind (iAreTeams_ev l hs) ?_))
  refine Ev.ite (fun h1 => ?_) (fun h1 => Ev.some_ (mayT_neg (fun h => h1 h.1)))
  refine Ev.ite (fun h2 => ?_) (fun h2 => Ev.some_ (mayT_neg (fun h => h2 h.2.1)))
  refine Ev.ite (fun h3 => ?_) (fun h3 => Ev.some_ (mayT_neg (fun h => h3 h.2.2.1)))
  refine Ev.ite (fun h4 => Ev.some_ (mayT_neg (fun h => h.2.2.2.1 h4))) (fun h4 => ?_)
  refine Ev.pos (by omega) (Ev.pos ha.2 (Ev.pos (by omega) (Ev.pos hb.2 ?_)))
  refine Ev.ite (fun h5 => Ev.some_ (mayT_neg (fun h => h.2.2.2.2.1 h5))) (fun h5 => ?_)
  refine Ev.bind (iHaveMet_ev l a b hs) (Ev.some_ ?_)
  cases h6 : metT l a b
  · exact (mayT_iff.2 ⟨h1, h2, h3, h4, h5, h6⟩).symm
  · exact mayT_neg (fun h => by simp [h6] at h)
end Go.Proofs.Ytiimiogpiflkdaa.L

/- FnExactMayMeet: the plain statement: the program and the reference answer alike, for every input. No condition. -/
set_option linter.unusedVariables false
set_option linter.unusedSimpArgs false
namespace Go.Proofs.Ytiimiogpiflkdaa.L
open Go Go.RowKit Go.Proofs.Ytiimiogpiflkdaa.A Go.Proofs.YtiimiogpiflkdaaW.PrintWords
theorem FnExactMayMeet_pure (l0 : List S64) (a1 : Int) (a2 : Int) (b0 : l0.length ≤ 9223372036854775807) (b1 : ∀ x ∈ l0, x.f5.length ≤ 9223372036854775807) (a1w : (Lit.int .i64 a1).wf = true) (a2w : (Lit.int .i64 a2).wf = true) : ∃ k, laws_FnExactMayMeet.f k l0 a1 a2 = some true := by
  refine Ev.rounds (g := fun k => laws_FnExactMayMeet.f k l0 a1 a2) ?_
  unfold laws_FnExactMayMeet.f
  obtain ⟨v, hv, _, hv2⟩ := szTeamS_ev l0 b0 b1
  refine Ev.bind hv (Ev.ite (fun _ => Ev.now _) (fun hs => ?_))
  obtain ⟨hl, hi⟩ := hv2 hs
  have hs := (small_map l0 (by omega) (fun x hx => by have := hi x hx; omega))
  refine Ev.bind (toTeamS_ev l0 (by omega) (fun x hx => by have := hi x hx; omega)) ?_
  refine Ev.bind (sMayMeet_ev _ _ _ hs) ?_
  refine Ev.bind (toTeamS_ev l0 (by omega) (fun x hx => by have := hi x hx; omega)) ?_
  refine Ev.bind (iMayMeet_ev _ _ _ hs) ?_
  refine Ev.neg (by simp) ?_
  refine Ev.bind (toTeamS_ev l0 (by omega) (fun x hx => by have := hi x hx; omega)) ?_
  refine Ev.bind (eqTeamS_ev _ hs) ?_
  exact Ev.pos rfl (Ev.now _)
end Go.Proofs.Ytiimiogpiflkdaa.L
