/- What the row FnTeams rests on, put together: A83, LOpen, LTeam2, LTeam3i, LCont, A33, LHas, A34, LMet, A35, A63, LMay, A31, LOrd, LAddF, LAddS, LAddI, LDraw0. No condition. -/
import Derived.Test.YtiimiogpiflkdaaSFnTeamsx0
import Derived.Test.YtiimiogpiflkdaaSFnTeamsx1
import Derived.Test.YtiimiogpiflkdaaSFnTeamsx3
import Derived.Deep.Slices
import Derived.Deep.Fields
import Derived.ChangeSame
import Derived.Lib.SmallJoins
import Derived.Test.YtiimiogpiflkdaaSFnTeamsx2
section
namespace Go.Proofs.Ytiimiogpiflkdaa.A
open Go.RowKit Go.Proofs.YtiimiogpiflkdaaW.PrintWords Go.Proofs.YtiimiogpiflkdaaW.PrintLast Go.Proofs.YtiimiogpiflkdaaW.PrintMore
attribute [local go_sem] max2_int min2_int max_two min_two max_three min_three max_four min_four   -- for this text's walks alone
set_option linter.unusedVariables false
set_option linter.unusedSimpArgs false
mutual
def laws_FnTeams.j0 : Nat → List Int → Option (Bool)
  | 0, _ => none
  | k + 1, x0 => (spec_DrawStanding.f k x0).bind fun t607 => ((impl_Standing.f k t607).bind fun t610 => ((impl_AreTeams.f k t607).bind fun t613 => (if (t613 != ((t610.length : Int) == (t607.length : Int))) = true then (laws_FnTeams.j1 k t607 t610 (decide ((t607.length : Int) > 0))) else (laws_FnTeams.j1 k t607 t610 false))))
def laws_FnTeams.j1 : Nat → List (S61) → List Int → Bool → Option (Bool)
  | 0, _, _, _ => none
  | k + 1, x11, x12, x102 => if x102 = true then (some false) else (laws_FnTeams.l0 k x11 x12 1)
def laws_FnTeams.l0 : Nat → List (S61) → List Int → Int → Option (Bool)
  | 0, _, _, _ => none
  | k + 1, x11, x12, x13 => if x13 < (x12.length : Int) then (if 0 ≤ (wrap64 (x13 - 1)) then (if (wrap64 (x13 - 1)) < (x12.length : Int) then ((impl_FindTeam.f x11 (rd x12 (wrap64 (x13 - 1)))).bind fun t615 => (if 0 ≤ t615 then (if t615 < (x11.length : Int) then (if 0 ≤ x13 then ((impl_FindTeam.f x11 (rd x12 x13)).bind fun t619 => (if 0 ≤ t619 then (if t619 < (x11.length : Int) then (if ((rd_T61 x11 t615).f2) < ((rd_T61 x11 t619).f2) then (some false) else (if ((rd_T61 x11 t615).f2) = ((rd_T61 x11 t619).f2) then (if ((rd_T61 x11 t615).f3) < ((rd_T61 x11 t619).f3) then (some false) else (laws_FnTeams.l0 k x11 x12 (wrap64 (x13 + 1)))) else (laws_FnTeams.l0 k x11 x12 (wrap64 (x13 + 1))))) else (none)) else (none))) else (none)) else (none)) else (none))) else (none)) else (none)) else (some true)
end
def laws_FnTeams.f (k : Nat) (l0 : List Int) : Option (Bool) := (laws_big.f l0).bind fun t585 => (if t585 = true then (some true) else ((spec_DrawAddResult.f k l0).bind fun bt586 => ((impl_AddResult.f k bt586.1 bt586.2.1 bt586.2.2.1 bt586.2.2.2.1 bt586.2.2.2.2.1 bt586.2.2.2.2.2).bind fun bt594 => (if bt594.2 = true then ((impl_AreTeams.f k bt594.1).bind fun t598 => (if t598 = true then ((impl_TotalWins.f k bt594.1).bind fun t599 => ((impl_TotalWins.f k bt586.1).bind fun t600 => (if t599 = (wrap64 (t600 + 1)) then ((impl_HaveMet.f k bt594.1 bt586.2.1 bt586.2.2.1).bind fun t601 => (if t601 = true then ((impl_HaveMet.f k bt594.1 bt586.2.2.1 bt586.2.1).bind fun t602 => (if t602 = true then ((impl_FindTeam.f bt594.1 bt586.2.1).bind fun t603 => (if 0 ≤ t603 then (if t603 < (bt594.1.length : Int) then ((impl_FindTeam.f bt586.1 bt586.2.1).bind fun t605 => (if 0 ≤ t605 then (if t605 < (bt586.1.length : Int) then (if ((rd_T61 bt594.1 t603).f4) = (wrap64 (((rd_T61 bt586.1 t605).f4) + 1)) then (laws_FnTeams.j0 k l0) else (some false)) else (none)) else (none))) else (none)) else (none))) else (some false))) else (some false))) else (some false)))) else (some false))) else (if (bt594.1.length : Int) = (bt586.1.length : Int) then (laws_FnTeams.j0 k l0) else (some false))))))
def laws_FnTeams.T6 : Bool × List (List Nat × List Nat) := (true, [([], []), ([0], [0]), ([1], [1]), ([2, 1], [2]), ([3], [3]), ([4, 3, 3], [3, 4]), ([3], [3]), ([6, 5, 3], [3, 6]), ([7, 3], [3, 7]), ([5, 8, 3], [3, 5, 8]), ([3, 9], [3, 9]), ([10, 7], [10]), ([11], [11]), ([11], [11]), ([11], [11]), ([12, 13, 14, 11, 11], [11, 12, 13, 14]), ([15, 11], [11, 15]), ([11, 16], [11, 16]), ([17, 15], [17]), ([18], [18]), ([18], [18]), ([18], [18]), ([19, 20, 21, 18, 18], [18, 19, 20, 21]), ([22, 18], [18, 22]), ([18, 23], [18, 23]), ([24, 22], [24]), ([25], [25]), ([25], [25]), ([25], [25]), ([27, 28, 25, 25], [25, 27, 28]), ([26, 29, 25], [25, 26, 29]), ([30, 25], [25, 30]), ([31, 25], [25, 31]), ([25], [25]), ([25], [25]), ([25], [25]), ([34, 35, 29, 25], [25, 34, 35]), ([33, 36, 25], [25, 33, 36]), ([37, 25], [25, 37]), ([38, 25], [25, 38]), ([39, 25], [25, 39]), ([32, 40, 25], [25, 32, 40]), ([25, 41], [25, 41])])
def laws_FnTeams.B6 : List Nat := [0, 1, 3, 7, 15, 31, 15, 127, 255, 511, 1023, 2047, 4095, 4095, 4095, 32767, 65535, 131071, 262143, 524287, 524287, 524287, 4194303, 8388607, 16777215, 33554431, 67108863, 67108863, 67108863, 469762047, 1073741823, 2147483647, 4294967295, 67108863, 67108863, 67108863, 52546240511, 129855651839, 267294605311, 542172512255, 1091928326143, 2199023255551, 4398046511103]
theorem laws_FnTeams.tab6 : rtab .any (opsOf Try.f14 6) = laws_FnTeams.T6 := by kernel_rfl
theorem laws_FnTeams.bits6 : waitsOk laws_FnTeams.T6.2 laws_FnTeams.B6 = true := by kernel_rfl
set_option maxHeartbeats 8000000 in
set_option maxRecDepth 100000 in
theorem laws_FnTeams.calls (k : Nat) (A0 : Option Addr) (c0 : Nat) (l0 : List Int) (r : Bool) (w : World) (hr0 : Kd.C (Kd.int .u8) w A0 l0.length l0) (hc0 : l0.length ≤ c0) (h : laws_FnTeams.f k l0 = some r) :
  Calls Try.prog 14 #[.slice A0 l0.length c0] w fun e w' => e = .returned (.bool r) ∧ Below w.heap.size w w' := by
 have hu61 := Try.underlying61
 have HR0 := Aside0.mk hr0
 have HC0 := Aside0.mk hc0
 clear hr0 hc0
 have HB := Aside0.mk (Below.refl w.heap.size w)
 have H : ((laws_big.f l0).bind fun t585 => (if t585 = true then (some true) else ((spec_DrawAddResult.f k l0).bind fun bt586 => ((impl_AddResult.f k bt586.1 bt586.2.1 bt586.2.2.1 bt586.2.2.2.1 bt586.2.2.2.2.1 bt586.2.2.2.2.2).bind fun bt594 => (if bt594.2 = true then ((impl_AreTeams.f k bt594.1).bind fun t598 => (if t598 = true then ((impl_TotalWins.f k bt594.1).bind fun t599 => ((impl_TotalWins.f k bt586.1).bind fun t600 => (if t599 = (wrap64 (t600 + 1)) then ((impl_HaveMet.f k bt594.1 bt586.2.1 bt586.2.2.1).bind fun t601 => (if t601 = true then ((impl_HaveMet.f k bt594.1 bt586.2.2.1 bt586.2.1).bind fun t602 => (if t602 = true then ((impl_FindTeam.f bt594.1 bt586.2.1).bind fun t603 => (if 0 ≤ t603 then (if t603 < (bt594.1.length : Int) then ((impl_FindTeam.f bt586.1 bt586.2.1).bind fun t605 => (if 0 ≤ t605 then (if t605 < (bt586.1.length : Int) then (if ((rd_T61 bt594.1 t603).f4) = (wrap64 (((rd_T61 bt586.1 t605).f4) + 1)) then (laws_FnTeams.j0 k l0) else (some false)) else (none)) else (none))) else (none)) else (none))) else (some false))) else (some false))) else (some false)))) else (some false))) else (if (bt594.1.length : Int) = (bt586.1.length : Int) then (laws_FnTeams.j0 k l0) else (some false))))))) = some r := h
 clear h
 replace H := Option.bind_eq_some_iff.mp H
 obtain ⟨t585, A20, H⟩ := H
 replace H : (if t585 = true then (some true) else ((spec_DrawAddResult.f k l0).bind fun bt586 => ((impl_AddResult.f k bt586.1 bt586.2.1 bt586.2.2.1 bt586.2.2.2.1 bt586.2.2.2.2.1 bt586.2.2.2.2.2).bind fun bt594 => (if bt594.2 = true then ((impl_AreTeams.f k bt594.1).bind fun t598 => (if t598 = true then ((impl_TotalWins.f k bt594.1).bind fun t599 => ((impl_TotalWins.f k bt586.1).bind fun t600 => (if t599 = (wrap64 (t600 + 1)) then ((impl_HaveMet.f k bt594.1 bt586.2.1 bt586.2.2.1).bind fun t601 => (if t601 = true then ((impl_HaveMet.f k bt594.1 bt586.2.2.1 bt586.2.1).bind fun t602 => (if t602 = true then ((impl_FindTeam.f bt594.1 bt586.2.1).bind fun t603 => (if 0 ≤ t603 then (if t603 < (bt594.1.length : Int) then ((impl_FindTeam.f bt586.1 bt586.2.1).bind fun t605 => (if 0 ≤ t605 then (if t605 < (bt586.1.length : Int) then (if ((rd_T61 bt594.1 t603).f4) = (wrap64 (((rd_T61 bt586.1 t605).f4) + 1)) then (laws_FnTeams.j0 k l0) else (some false)) else (none)) else (none))) else (none)) else (none))) else (some false))) else (some false))) else (some false)))) else (some false))) else (if (bt594.1.length : Int) = (bt586.1.length : Int) then (laws_FnTeams.j0 k l0) else (some false)))))) = some r := H
 have A2 := Aside0.mk A20
 clear A20
 by_cases c3 : t585 = true
 rotate_left
 ·
  replace c3 := Bool.eq_false_iff.mpr c3
  subst c3
  have H1 : ((spec_DrawAddResult.f k l0).bind fun bt586 => ((impl_AddResult.f k bt586.1 bt586.2.1 bt586.2.2.1 bt586.2.2.2.1 bt586.2.2.2.2.1 bt586.2.2.2.2.2).bind fun bt594 => (if bt594.2 = true then ((impl_AreTeams.f k bt594.1).bind fun t598 => (if t598 = true then ((impl_TotalWins.f k bt594.1).bind fun t599 => ((impl_TotalWins.f k bt586.1).bind fun t600 => (if t599 = (wrap64 (t600 + 1)) then ((impl_HaveMet.f k bt594.1 bt586.2.1 bt586.2.2.1).bind fun t601 => (if t601 = true then ((impl_HaveMet.f k bt594.1 bt586.2.2.1 bt586.2.1).bind fun t602 => (if t602 = true then ((impl_FindTeam.f bt594.1 bt586.2.1).bind fun t603 => (if 0 ≤ t603 then (if t603 < (bt594.1.length : Int) then ((impl_FindTeam.f bt586.1 bt586.2.1).bind fun t605 => (if 0 ≤ t605 then (if t605 < (bt586.1.length : Int) then (if ((rd_T61 bt594.1 t603).f4) = (wrap64 (((rd_T61 bt586.1 t605).f4) + 1)) then (laws_FnTeams.j0 k l0) else (some false)) else (none)) else (none))) else (none)) else (none))) else (some false))) else (some false))) else (some false)))) else (some false))) else (if (bt594.1.length : Int) = (bt586.1.length : Int) then (laws_FnTeams.j0 k l0) else (some false))))) = some r := by rw [if_neg (show ¬ (false = true) by decide)] at H; exact H
  clear H
  have H := H1
  clear H1
  replace H := Option.bind_eq_some_iff.mp H
  obtain ⟨⟨t586, t587, t588, t589, t590, t591⟩, A40, H⟩ := H
  replace H : ((impl_AddResult.f k t586 t587 t588 t589 t590 t591).bind fun bt594 => (if bt594.2 = true then ((impl_AreTeams.f k bt594.1).bind fun t598 => (if t598 = true then ((impl_TotalWins.f k bt594.1).bind fun t599 => ((impl_TotalWins.f k t586).bind fun t600 => (if t599 = (wrap64 (t600 + 1)) then ((impl_HaveMet.f k bt594.1 t587 t588).bind fun t601 => (if t601 = true then ((impl_HaveMet.f k bt594.1 t588 t587).bind fun t602 => (if t602 = true then ((impl_FindTeam.f bt594.1 t587).bind fun t603 => (if 0 ≤ t603 then (if t603 < (bt594.1.length : Int) then ((impl_FindTeam.f t586 t587).bind fun t605 => (if 0 ≤ t605 then (if t605 < (t586.length : Int) then (if ((rd_T61 bt594.1 t603).f4) = (wrap64 (((rd_T61 t586 t605).f4) + 1)) then (laws_FnTeams.j0 k l0) else (some false)) else (none)) else (none))) else (none)) else (none))) else (some false))) else (some false))) else (some false)))) else (some false))) else (if (bt594.1.length : Int) = (t586.length : Int) then (laws_FnTeams.j0 k l0) else (some false)))) = some r := H
  have A4 := Aside0.mk A40
  clear A40
  replace H := Option.bind_eq_some_iff.mp H
  obtain ⟨⟨t594, t595⟩, A50, H⟩ := H
  replace H : (if t595 = true then ((impl_AreTeams.f k t594).bind fun t598 => (if t598 = true then ((impl_TotalWins.f k t594).bind fun t599 => ((impl_TotalWins.f k t586).bind fun t600 => (if t599 = (wrap64 (t600 + 1)) then ((impl_HaveMet.f k t594 t587 t588).bind fun t601 => (if t601 = true then ((impl_HaveMet.f k t594 t588 t587).bind fun t602 => (if t602 = true then ((impl_FindTeam.f t594 t587).bind fun t603 => (if 0 ≤ t603 then (if t603 < (t594.length : Int) then ((impl_FindTeam.f t586 t587).bind fun t605 => (if 0 ≤ t605 then (if t605 < (t586.length : Int) then (if ((rd_T61 t594 t603).f4) = (wrap64 (((rd_T61 t586 t605).f4) + 1)) then (laws_FnTeams.j0 k l0) else (some false)) else (none)) else (none))) else (none)) else (none))) else (some false))) else (some false))) else (some false)))) else (some false))) else (if (t594.length : Int) = (t586.length : Int) then (laws_FnTeams.j0 k l0) else (some false))) = some r := H
  have A5 := Aside0.mk A50
  clear A50
  have HC6 := Aside0.mk H
  clear H
  go_enter Try.func14, Try.ntmps14
  go_upto_if 37 with (first | ((with_reducible refine gate_callee (f := 51) rfl ?_); refine goesL_ (some 17) rfl rfl Try.func51 (by kernel_rfl) rfl #[.slice A0 l0.length c0] rfl (by (try simp only [List.map_toArray, List.map_cons, List.map_nil]); first | done | rfl | (simp only [List.length_drop, List.length_take]; rfl)) ?_; (with_reducible refine (laws_big.calls _ _ l0 false _ ?side1 ?side2 A2.out).mono ?_); (case side1 => repeat (first | exact HR0.out | (with_reducible refine Kd.C_alloc ?_ _) | (with_reducible refine Kd.C_drewN ?_ _) | (with_reducible refine Kd.C_drew ?_))); (case side2 => exact HC0.out); rintro e w' ⟨rfl, ⟨nd, rfl⟩⟩; refine ⟨_, rfl, ?_⟩) | ((with_reducible refine gate_callee (f := 52) rfl ?_); refine goesL_ (some 20) rfl rfl Try.func52 (by kernel_rfl) rfl #[.slice A0 l0.length c0] rfl (by (try simp only [List.map_toArray, List.map_cons, List.map_nil]); first | done | rfl | (simp only [List.length_drop, List.length_take]; rfl)) ?_; (with_reducible refine (spec_DrawAddResult.calls k _ _ l0 t586 t587 t588 t589 t590 t591 _ ?side1 ?side2 A4.out).mono ?_); (case side1 => repeat (first | exact HR0.out | (with_reducible refine Kd.C_alloc ?_ _) | (with_reducible refine Kd.C_drewN ?_ _) | (with_reducible refine Kd.C_drew ?_))); (case side2 => exact HC0.out); rintro e w7 ⟨v592, rfl, ho0, hb⟩; refine ⟨_, rfl, ?_⟩; have n0_ := Aside0.mk (Kd.S_lower ho0 (below_size (by repeat (first | (with_reducible first | exact HB.out | apply below_alloc | apply pw_below_drewN | apply below_drew1) | exact HB.out)))); have n1_ := Aside0.mk (below_step (by repeat (first | (with_reducible first | exact HB.out | apply below_alloc | apply pw_below_drewN | apply below_drew1) | exact HB.out)) hb); clear HB; have HO593 := n0_; have HB := n1_; clear n0_ n1_; (try clear hb); (try clear hb2); (try clear hk); (try clear hi); (try clear ho0); obtain ⟨Ao8, co8, eo8⟩ := Kd.S_slice HO593.out; subst eo8) | ((with_reducible refine gate_callee (f := 43) rfl ?_); refine goesL_ (some 34) rfl rfl Try.func43 (by kernel_rfl) rfl #[.slice Ao8 t586.length co8, .int .i64 t587, .int .i64 t588, .int .i64 t589, .int .i64 t590, .int .i64 t591] rfl (by (try simp only [List.map_toArray, List.map_cons, List.map_nil]); first | done | rfl | (simp only [List.length_drop, List.length_take]; rfl)) ?_; (with_reducible refine (impl_AddResult.calls k _ _ t586 t587 t588 t589 t590 t591 t594 t595 _ ?side1 ?side2 A5.out).mono ?_); (case side1 => repeat (first | exact (Kd.S_reads' HO593.out).2.2 | (with_reducible refine Kd.C_alloc ?_ _) | (with_reducible refine Kd.C_drewN ?_ _) | (with_reducible refine Kd.C_drew ?_))); (case side2 => exact (Kd.S_reads' HO593.out).2.1); rintro e w9 ⟨v596, rfl, ho0, hb⟩; refine ⟨_, rfl, ?_⟩; have n0_ := Aside0.mk (Kd.S_elder' (by (with_reducible repeat (first | apply Kd.S_alloc | apply Kd.S_drewN | apply Kd.S_drew)); exact HO593.out) (Kd.S_base ho0) hb); have n1_ := Aside0.mk (Kd.S_lower (Kd.S_new' ho0 (Kd.S_lt (by (with_reducible repeat (first | apply Kd.S_alloc | apply Kd.S_drewN | apply Kd.S_drew)); exact HO593.out))) (below_size (by repeat (first | (with_reducible first | exact HB.out | apply below_alloc | apply pw_below_drewN | apply below_drew1) | exact HB.out)))); have n2_ := Aside0.mk (below_step (by repeat (first | (with_reducible first | exact HB.out | apply below_alloc | apply pw_below_drewN | apply below_drew1) | exact HB.out)) hb); clear HO593; clear HB; have HO593 := n0_; have HO597 := n1_; have HB := n2_; clear n0_ n1_ n2_; (try clear hb); (try clear hb2); (try clear hk); (try clear hi); (try clear ho0)))
  (try simp only [Act.put, Z1, Z2, Z3])
  go_cut [] (fun wc => ∃ (kq : Nat), Aside0 (laws_FnTeams.j0 kq l0 = some r) ∧ Aside0 (kq ≤ k) ∧ Aside0 (Below w.heap.size w wc))
  case first =>
   have H := HC6.out
   clear HC6
   by_cases c10 : t595 = true
   rotate_left
   ·
    replace c10 := Bool.eq_false_iff.mpr c10
    subst c10
    have H1 : (if (t594.length : Int) = (t586.length : Int) then (laws_FnTeams.j0 k l0) else (some false)) = some r := by rw [if_neg (show ¬ (false = true) by decide)] at H; exact H
    clear H
    have H := H1
    clear H1
    by_cases c66 : (t594.length : Int) = (t586.length : Int)
    rotate_left
    ·
     rw [if_neg c66] at H
     have c66b0 : ((t594.length : Int) == (t586.length : Int)) = false := beq_eq_false_iff_ne.mpr c66
     have c66b1 : ((t594.length : Int) != (t586.length : Int)) = true := bne_iff_ne.mpr c66
     have c66b2 : (t594.length == t586.length) = false := by first | simpa using c66 | (simp at c66 ⊢; omega)
     obtain rfl := Option.some.inj H
     obtain ⟨Ao68, co68, eo68⟩ := Kd.S_slice HO597.out
     subst eo68
     go_wp2
     all_goals (go_ret; exact ⟨by first | rfl | (simp [errW_none, errW_some] <;> rfl) | (simp [*, errW_none, errW_some] <;> rfl), by repeat (first | (with_reducible first | exact HB.out | apply below_alloc | apply pw_below_drewN | apply below_drew1) | exact HB.out)⟩)
    rw [if_pos c66] at H
    have c66b0 : ((t594.length : Int) == (t586.length : Int)) = true := beq_iff_eq.mpr c66
    have c66b1 : ((t594.length : Int) != (t586.length : Int)) = false := bne_eq_false_iff_eq.mpr c66
    have c66b2 : (t594.length == t586.length) = true := by first | simpa using c66 | (simp at c66 ⊢; omega)
    clear c66
    have H' := Aside0.mk H
    clear H
    obtain ⟨Ao67, co67, eo67⟩ := Kd.S_slice HO597.out
    subst eo67
    go_wp2
    go_meet
    case rel => exact ⟨_, H', ⟨by first | omega | exact Nat.le_refl _⟩, ⟨by repeat (first | (with_reducible first | exact HB.out | apply below_alloc | apply pw_below_drewN | apply below_drew1) | exact HB.out)⟩⟩
   subst c10
   have H1 : ((impl_AreTeams.f k t594).bind fun t598 => (if t598 = true then ((impl_TotalWins.f k t594).bind fun t599 => ((impl_TotalWins.f k t586).bind fun t600 => (if t599 = (wrap64 (t600 + 1)) then ((impl_HaveMet.f k t594 t587 t588).bind fun t601 => (if t601 = true then ((impl_HaveMet.f k t594 t588 t587).bind fun t602 => (if t602 = true then ((impl_FindTeam.f t594 t587).bind fun t603 => (if 0 ≤ t603 then (if t603 < (t594.length : Int) then ((impl_FindTeam.f t586 t587).bind fun t605 => (if 0 ≤ t605 then (if t605 < (t586.length : Int) then (if ((rd_T61 t594 t603).f4) = (wrap64 (((rd_T61 t586 t605).f4) + 1)) then (laws_FnTeams.j0 k l0) else (some false)) else (none)) else (none))) else (none)) else (none))) else (some false))) else (some false))) else (some false)))) else (some false))) = some r := by rw [if_pos rfl] at H; exact H
   clear H
   have H := H1
   clear H1
   replace H := Option.bind_eq_some_iff.mp H
   obtain ⟨t598, A110, H⟩ := H
   replace H : (if t598 = true then ((impl_TotalWins.f k t594).bind fun t599 => ((impl_TotalWins.f k t586).bind fun t600 => (if t599 = (wrap64 (t600 + 1)) then ((impl_HaveMet.f k t594 t587 t588).bind fun t601 => (if t601 = true then ((impl_HaveMet.f k t594 t588 t587).bind fun t602 => (if t602 = true then ((impl_FindTeam.f t594 t587).bind fun t603 => (if 0 ≤ t603 then (if t603 < (t594.length : Int) then ((impl_FindTeam.f t586 t587).bind fun t605 => (if 0 ≤ t605 then (if t605 < (t586.length : Int) then (if ((rd_T61 t594 t603).f4) = (wrap64 (((rd_T61 t586 t605).f4) + 1)) then (laws_FnTeams.j0 k l0) else (some false)) else (none)) else (none))) else (none)) else (none))) else (some false))) else (some false))) else (some false)))) else (some false)) = some r := H
   have A11 := Aside0.mk A110
   clear A110
   by_cases c12 : t598 = true
   rotate_left
   ·
    replace c12 := Bool.eq_false_iff.mpr c12
    subst c12
    have H1 : (some false) = some r := by rw [if_neg (show ¬ (false = true) by decide)] at H; exact H
    clear H
    have H := H1
    clear H1
    obtain rfl := Option.some.inj H
    try go_wp2
    have n0_ := Aside0.mk (Kd.S_drew HO593.out)
    have n1_ := Aside0.mk (Kd.S_drew HO597.out)
    have n2_ := Aside0.mk (below_drew1 HB.out)
    clear HO593
    clear HO597
    clear HB
    have HO593 := n0_
    have HO597 := n1_
    have HB := n2_
    clear n0_ n1_ n2_
    obtain ⟨Ao64, co64, eo64⟩ := Kd.S_slice HO597.out
    (first | subst eo64 | (injection eo64 with f1_ f2_ f3_; have f4_ := f1_.symm; have f5_ := f3_.symm; clear f1_ f2_ f3_; subst f4_; subst f5_))
    refine start_ (n := 43) (S := fun w' => True) (ds := []) (bv 43 0) (by kernel_rfl) rfl rfl trivial (fun hHeld => ?_); refine with_tabW laws_FnTeams.tab6 laws_FnTeams.bits6 (fun HT_ HW_ => ?_)
    generalize w9.drew = w63 at HO593 HO597 HB hHeld ⊢
    refine pv_ 43 0 38 1 rfl rfl HT_ ?_
    refine one_ (i := 1) (N := some 39) (bv 43 3) rfl rfl (one_of HT_.out (by kernel_rfl)) (by decide) (fun K hK => ?_)
    refine goes_ Try.func21 (by kernel_rfl) rfl #[.slice Ao64 t594.length co64] (by rfl) rfl rfl (by (try simp only [List.map_toArray, List.map_cons, List.map_nil]); first | done | rfl | (simp only [List.length_drop, List.length_take]; rfl)) ?_
    with_reducible refine (impl_AreTeams.calls k _ _ t594 false _ ?side1 ?side2 A11.out).mono ?_
    (case side1 => repeat (first | exact (Kd.S_reads' HO597.out).2.2 | (with_reducible refine Kd.C_alloc ?_ _) | (with_reducible refine Kd.C_drewN ?_ _) | (with_reducible refine Kd.C_drew ?_)))
    (case side2 => exact (Kd.S_reads' HO597.out).2.1)
    rintro e w65 ⟨rfl, hb⟩
    refine ⟨_, rfl, ?_⟩
    have n0_ := Aside0.mk (Kd.S_below (by (with_reducible repeat (first | apply Kd.S_alloc | apply Kd.S_drewN | apply Kd.S_drew)); exact HO593.out) hb)
    have n1_ := Aside0.mk (Kd.S_below (by (with_reducible repeat (first | apply Kd.S_alloc | apply Kd.S_drewN | apply Kd.S_drew)); exact HO597.out) hb)
    have n2_ := Aside0.mk (below_step (by repeat (first | (with_reducible first | exact HB.out | apply below_alloc | apply pw_below_drewN | apply below_drew1) | exact HB.out)) hb)
    clear HO593
    clear HO597
    clear HB
    have HO593 := n0_
    have HO597 := n1_
    have HB := n2_
    clear n0_ n1_ n2_
    (try clear hb)
    (try clear hb2)
    (try clear hk)
    (try clear hi)
    refine hK.out _ _ trivial (fun hHeld => ?_)
    clear hK K
    refine nm_ 39 ?_
    refine pv_ 43 2 40 7 rfl rfl HT_ ?_; refine pv_ 43 3 41 15 rfl rfl HT_ ?_; refine pu_ 43 4 42 31 rfl rfl HT_ ?_; refine pu_ 43 5 43 63 rfl rfl HT_ ?_; refine pu_ 43 6 44 127 rfl rfl HT_ ?_; refine pu_ 43 7 45 255 rfl rfl HT_ ?_; refine pu_ 43 8 46 511 rfl rfl HT_ ?_; refine pu_ 43 9 47 1023 rfl rfl HT_ ?_; refine pv_ 43 10 48 2047 rfl rfl HT_ ?_; refine pv_ 43 11 49 4095 rfl rfl HT_ ?_; refine pu_ 43 12 50 8191 rfl rfl HT_ ?_; refine pu_ 43 13 51 16383 rfl rfl HT_ ?_; refine pu_ 43 14 52 32767 rfl rfl HT_ ?_; refine pu_ 43 15 53 65535 rfl rfl HT_ ?_; refine pu_ 43 16 54 131071 rfl rfl HT_ ?_; refine pv_ 43 17 55 262143 rfl rfl HT_ ?_; refine pv_ 43 18 56 524287 rfl rfl HT_ ?_; refine pu_ 43 19 57 1048575 rfl rfl HT_ ?_; refine pu_ 43 20 58 2097151 rfl rfl HT_ ?_; refine pu_ 43 21 59 4194303 rfl rfl HT_ ?_; refine pu_ 43 22 60 8388607 rfl rfl HT_ ?_; refine pu_ 43 23 61 16777215 rfl rfl HT_ ?_
    refine pv_ 43 24 62 33554431 rfl rfl HT_ ?_; refine pv_ 43 25 63 67108863 rfl rfl HT_ ?_; refine pu_ 43 26 64 134217727 rfl rfl HT_ ?_; refine pu_ 43 27 65 268435455 rfl rfl HT_ ?_; refine pu_ 43 28 66 536870911 rfl rfl HT_ ?_; refine pu_ 43 29 67 1073741823 rfl rfl HT_ ?_; refine pu_ 43 30 68 2147483647 rfl rfl HT_ ?_; refine pu_ 43 31 69 4294967295 rfl rfl HT_ ?_; refine pu_ 43 32 70 8589934591 rfl rfl HT_ ?_; refine pu_ 43 33 71 17179869183 rfl rfl HT_ ?_; refine pu_ 43 34 72 34359738367 rfl rfl HT_ ?_; refine pu_ 43 35 73 68719476735 rfl rfl HT_ ?_; refine pu_ 43 36 74 137438953471 rfl rfl HT_ ?_; refine pu_ 43 37 75 274877906943 rfl rfl HT_ ?_; refine pu_ 43 38 76 549755813887 rfl rfl HT_ ?_; refine pu_ 43 39 77 1099511627775 rfl rfl HT_ ?_; refine pu_ 43 40 78 2199023255551 rfl rfl HT_ ?_; refine pu_ 43 41 79 4398046511103 rfl rfl HT_ ?_; refine pv_ 43 42 80 8796093022207 rfl rfl HT_ ?_
    refine done_ (done_of HT_.out (by kernel_rfl)) ?_
    try go_wp2
    all_goals (go_ret; exact ⟨by first | rfl | (simp [errW_none, errW_some] <;> rfl) | (simp [*, errW_none, errW_some] <;> rfl), by repeat (first | (with_reducible first | exact HB.out | apply below_alloc | apply pw_below_drewN | apply below_drew1) | exact HB.out)⟩)
   subst c12
   have H1 : ((impl_TotalWins.f k t594).bind fun t599 => ((impl_TotalWins.f k t586).bind fun t600 => (if t599 = (wrap64 (t600 + 1)) then ((impl_HaveMet.f k t594 t587 t588).bind fun t601 => (if t601 = true then ((impl_HaveMet.f k t594 t588 t587).bind fun t602 => (if t602 = true then ((impl_FindTeam.f t594 t587).bind fun t603 => (if 0 ≤ t603 then (if t603 < (t594.length : Int) then ((impl_FindTeam.f t586 t587).bind fun t605 => (if 0 ≤ t605 then (if t605 < (t586.length : Int) then (if ((rd_T61 t594 t603).f4) = (wrap64 (((rd_T61 t586 t605).f4) + 1)) then (laws_FnTeams.j0 k l0) else (some false)) else (none)) else (none))) else (none)) else (none))) else (some false))) else (some false))) else (some false)))) = some r := by rw [if_pos rfl] at H; exact H
   clear H
   have H := H1
   clear H1
   replace H := Option.bind_eq_some_iff.mp H
   obtain ⟨t599, A130, H⟩ := H
   replace H : ((impl_TotalWins.f k t586).bind fun t600 => (if t599 = (wrap64 (t600 + 1)) then ((impl_HaveMet.f k t594 t587 t588).bind fun t601 => (if t601 = true then ((impl_HaveMet.f k t594 t588 t587).bind fun t602 => (if t602 = true then ((impl_FindTeam.f t594 t587).bind fun t603 => (if 0 ≤ t603 then (if t603 < (t594.length : Int) then ((impl_FindTeam.f t586 t587).bind fun t605 => (if 0 ≤ t605 then (if t605 < (t586.length : Int) then (if ((rd_T61 t594 t603).f4) = (wrap64 (((rd_T61 t586 t605).f4) + 1)) then (laws_FnTeams.j0 k l0) else (some false)) else (none)) else (none))) else (none)) else (none))) else (some false))) else (some false))) else (some false))) = some r := H
   have A13 := Aside0.mk A130
   clear A130
   replace H := Option.bind_eq_some_iff.mp H
   obtain ⟨t600, A140, H⟩ := H
   replace H : (if t599 = (wrap64 (t600 + 1)) then ((impl_HaveMet.f k t594 t587 t588).bind fun t601 => (if t601 = true then ((impl_HaveMet.f k t594 t588 t587).bind fun t602 => (if t602 = true then ((impl_FindTeam.f t594 t587).bind fun t603 => (if 0 ≤ t603 then (if t603 < (t594.length : Int) then ((impl_FindTeam.f t586 t587).bind fun t605 => (if 0 ≤ t605 then (if t605 < (t586.length : Int) then (if ((rd_T61 t594 t603).f4) = (wrap64 (((rd_T61 t586 t605).f4) + 1)) then (laws_FnTeams.j0 k l0) else (some false)) else (none)) else (none))) else (none)) else (none))) else (some false))) else (some false))) else (some false)) = some r := H
   have A14 := Aside0.mk A140
   clear A140
   by_cases c15 : t599 = (wrap64 (t600 + 1))
   rotate_left
   ·
    rw [if_neg c15] at H
    have c15b0 : (t599 == (wrap64 (t600 + 1))) = false := beq_eq_false_iff_ne.mpr c15
    have c15b1 : (t599 != (wrap64 (t600 + 1))) = true := bne_iff_ne.mpr c15
    (first | rw [c15b0] | (simp only [i64_w, i32_w]; rw [c15b0]) | skip)
    obtain rfl := Option.some.inj H
    try go_wp2
    have n0_ := Aside0.mk (Kd.S_drew HO593.out)
    have n1_ := Aside0.mk (Kd.S_drew HO597.out)
    have n2_ := Aside0.mk (below_drew1 HB.out)
    clear HO593
    clear HO597
    clear HB
    have HO593 := n0_
    have HO597 := n1_
    have HB := n2_
    clear n0_ n1_ n2_
    obtain ⟨Ao59, co59, eo59⟩ := Kd.S_slice HO597.out
    (first | subst eo59 | (injection eo59 with f1_ f2_ f3_; have f4_ := f1_.symm; have f5_ := f3_.symm; clear f1_ f2_ f3_; subst f4_; subst f5_))
    refine start_ (n := 43) (S := fun w' => True) (ds := []) (bv 43 0) (by kernel_rfl) rfl rfl trivial (fun hHeld => ?_); refine with_tabW laws_FnTeams.tab6 laws_FnTeams.bits6 (fun HT_ HW_ => ?_)
    generalize w9.drew = w58 at HO593 HO597 HB hHeld ⊢
    refine pv_ 43 0 38 1 rfl rfl HT_ ?_
    refine one_ (i := 1) (N := some 39) (bv 43 3) rfl rfl (one_of HT_.out (by kernel_rfl)) (by decide) (fun K hK => ?_)
    refine goes_ Try.func21 (by kernel_rfl) rfl #[.slice Ao59 t594.length co59] (by rfl) rfl rfl (by (try simp only [List.map_toArray, List.map_cons, List.map_nil]); first | done | rfl | (simp only [List.length_drop, List.length_take]; rfl)) ?_
    with_reducible refine (impl_AreTeams.calls k _ _ t594 true _ ?side1 ?side2 A11.out).mono ?_
    (case side1 => repeat (first | exact (Kd.S_reads' HO597.out).2.2 | (with_reducible refine Kd.C_alloc ?_ _) | (with_reducible refine Kd.C_drewN ?_ _) | (with_reducible refine Kd.C_drew ?_)))
    (case side2 => exact (Kd.S_reads' HO597.out).2.1)
    rintro e w60 ⟨rfl, hb⟩
    refine ⟨_, rfl, ?_⟩
    have n0_ := Aside0.mk (Kd.S_below (by (with_reducible repeat (first | apply Kd.S_alloc | apply Kd.S_drewN | apply Kd.S_drew)); exact HO593.out) hb)
    have n1_ := Aside0.mk (Kd.S_below (by (with_reducible repeat (first | apply Kd.S_alloc | apply Kd.S_drewN | apply Kd.S_drew)); exact HO597.out) hb)
    have n2_ := Aside0.mk (below_step (by repeat (first | (with_reducible first | exact HB.out | apply below_alloc | apply pw_below_drewN | apply below_drew1) | exact HB.out)) hb)
    clear HO593
    clear HO597
    clear HB
    have HO593 := n0_
    have HO597 := n1_
    have HB := n2_
    clear n0_ n1_ n2_
    (try clear hb)
    (try clear hb2)
    (try clear hk)
    (try clear hi)
    refine hK.out _ _ trivial (fun hHeld => ?_)
    clear hK K
    refine nm_ 39 ?_
    refine pv_ 43 2 40 7 rfl rfl HT_ ?_; refine pv_ 43 3 41 15 rfl rfl HT_ ?_; refine pv_ 43 4 42 31 rfl rfl HT_ ?_; refine pv_ 43 6 44 95 rfl rfl HT_ ?_
    refine one_ (i := 5) (N := some 43) (bv 43 127) rfl rfl (one_of HT_.out (by kernel_rfl)) (by decide) (fun K hK => ?_)
    refine goes_ Try.func25 (by kernel_rfl) rfl #[.slice Ao59 t594.length co59] (by rfl) rfl rfl (by (try simp only [List.map_toArray, List.map_cons, List.map_nil]); first | done | rfl | (simp only [List.length_drop, List.length_take]; rfl)) ?_
    with_reducible refine (impl_TotalWins.calls k _ _ t594 t599 _ ?side1 ?side2 A13.out).mono ?_
    (case side1 => repeat (first | exact (Kd.S_reads' HO597.out).2.2 | (with_reducible refine Kd.C_alloc ?_ _) | (with_reducible refine Kd.C_drewN ?_ _) | (with_reducible refine Kd.C_drew ?_)))
    (case side2 => exact (Kd.S_reads' HO597.out).2.1)
    rintro e w61 ⟨rfl, hb⟩
    refine ⟨_, rfl, ?_⟩
    have n0_ := Aside0.mk (Kd.S_below (by (with_reducible repeat (first | apply Kd.S_alloc | apply Kd.S_drewN | apply Kd.S_drew)); exact HO593.out) hb)
    have n1_ := Aside0.mk (Kd.S_below (by (with_reducible repeat (first | apply Kd.S_alloc | apply Kd.S_drewN | apply Kd.S_drew)); exact HO597.out) hb)
    have n2_ := Aside0.mk (below_step (by repeat (first | (with_reducible first | exact HB.out | apply below_alloc | apply pw_below_drewN | apply below_drew1) | exact HB.out)) hb)
    clear HO593
    clear HO597
    clear HB
    have HO593 := n0_
    have HO597 := n1_
    have HB := n2_
    clear n0_ n1_ n2_
    (try clear hb)
    (try clear hb2)
    (try clear hk)
    (try clear hi)
    refine hK.out _ _ trivial (fun hHeld => ?_)
    clear hK K
    refine nm_ 43 ?_
    refine one_ (i := 7) (N := some 45) (bv 43 255) rfl rfl (one_of HT_.out (by kernel_rfl)) (by decide) (fun K hK => ?_)
    refine goes_ Try.func25 (by kernel_rfl) rfl #[.slice Ao8 t586.length co8] (by rfl) rfl rfl (by (try simp only [List.map_toArray, List.map_cons, List.map_nil]); first | done | rfl | (simp only [List.length_drop, List.length_take]; rfl)) ?_
    with_reducible refine (impl_TotalWins.calls k _ _ t586 t600 _ ?side1 ?side2 A14.out).mono ?_
    (case side1 => repeat (first | exact (Kd.S_reads' HO593.out).2.2 | (with_reducible refine Kd.C_alloc ?_ _) | (with_reducible refine Kd.C_drewN ?_ _) | (with_reducible refine Kd.C_drew ?_)))
    (case side2 => exact (Kd.S_reads' HO593.out).2.1)
    rintro e w62 ⟨rfl, hb⟩
    refine ⟨_, rfl, ?_⟩
    have n0_ := Aside0.mk (Kd.S_below (by (with_reducible repeat (first | apply Kd.S_alloc | apply Kd.S_drewN | apply Kd.S_drew)); exact HO593.out) hb)
    have n1_ := Aside0.mk (Kd.S_below (by (with_reducible repeat (first | apply Kd.S_alloc | apply Kd.S_drewN | apply Kd.S_drew)); exact HO597.out) hb)
    have n2_ := Aside0.mk (below_step (by repeat (first | (with_reducible first | exact HB.out | apply below_alloc | apply pw_below_drewN | apply below_drew1) | exact HB.out)) hb)
    clear HO593
    clear HO597
    clear HB
    have HO593 := n0_
    have HO597 := n1_
    have HB := n2_
    clear n0_ n1_ n2_
    (try clear hb)
    (try clear hb2)
    (try clear hk)
    (try clear hi)
    refine hK.out _ _ trivial (fun hHeld => ?_)
    clear hK K
    refine nm_ 45 ?_
    refine pv_ 43 8 46 511 rfl rfl HT_ ?_; refine pv_ 43 9 47 1023 rfl rfl HT_ ?_; refine pv_ 43 10 48 2047 rfl rfl HT_ ?_; refine pv_ 43 11 49 4095 rfl rfl HT_ ?_; refine pu_ 43 12 50 8191 rfl rfl HT_ ?_; refine pu_ 43 13 51 16383 rfl rfl HT_ ?_; refine pu_ 43 14 52 32767 rfl rfl HT_ ?_; refine pu_ 43 15 53 65535 rfl rfl HT_ ?_; refine pu_ 43 16 54 131071 rfl rfl HT_ ?_; refine pv_ 43 17 55 262143 rfl rfl HT_ ?_; refine pv_ 43 18 56 524287 rfl rfl HT_ ?_; refine pu_ 43 19 57 1048575 rfl rfl HT_ ?_; refine pu_ 43 20 58 2097151 rfl rfl HT_ ?_; refine pu_ 43 21 59 4194303 rfl rfl HT_ ?_; refine pu_ 43 22 60 8388607 rfl rfl HT_ ?_; refine pu_ 43 23 61 16777215 rfl rfl HT_ ?_; refine pv_ 43 24 62 33554431 rfl rfl HT_ ?_; refine pv_ 43 25 63 67108863 rfl rfl HT_ ?_; refine pu_ 43 26 64 134217727 rfl rfl HT_ ?_; refine pu_ 43 27 65 268435455 rfl rfl HT_ ?_; refine pu_ 43 28 66 536870911 rfl rfl HT_ ?_
    refine pu_ 43 29 67 1073741823 rfl rfl HT_ ?_; refine pu_ 43 30 68 2147483647 rfl rfl HT_ ?_; refine pu_ 43 31 69 4294967295 rfl rfl HT_ ?_; refine pu_ 43 32 70 8589934591 rfl rfl HT_ ?_; refine pu_ 43 33 71 17179869183 rfl rfl HT_ ?_; refine pu_ 43 34 72 34359738367 rfl rfl HT_ ?_; refine pu_ 43 35 73 68719476735 rfl rfl HT_ ?_; refine pu_ 43 36 74 137438953471 rfl rfl HT_ ?_; refine pu_ 43 37 75 274877906943 rfl rfl HT_ ?_; refine pu_ 43 38 76 549755813887 rfl rfl HT_ ?_; refine pu_ 43 39 77 1099511627775 rfl rfl HT_ ?_; refine pu_ 43 40 78 2199023255551 rfl rfl HT_ ?_; refine pu_ 43 41 79 4398046511103 rfl rfl HT_ ?_; refine pv_ 43 42 80 8796093022207 rfl rfl HT_ ?_
    refine done_ (done_of HT_.out (by kernel_rfl)) ?_
    try go_wp2
    all_goals (go_ret; exact ⟨by first | rfl | (simp [errW_none, errW_some] <;> rfl) | (simp [*, errW_none, errW_some] <;> rfl), by repeat (first | (with_reducible first | exact HB.out | apply below_alloc | apply pw_below_drewN | apply below_drew1) | exact HB.out)⟩)
   rw [if_pos c15] at H
   have c15b0 : (t599 == (wrap64 (t600 + 1))) = true := beq_iff_eq.mpr c15
   have c15b1 : (t599 != (wrap64 (t600 + 1))) = false := bne_eq_false_iff_eq.mpr c15
   clear c15
   (first | rw [c15b0] | (simp only [i64_w, i32_w]; rw [c15b0]) | skip)
   replace H := Option.bind_eq_some_iff.mp H
   obtain ⟨t601, A160, H⟩ := H
   replace H : (if t601 = true then ((impl_HaveMet.f k t594 t588 t587).bind fun t602 => (if t602 = true then ((impl_FindTeam.f t594 t587).bind fun t603 => (if 0 ≤ t603 then (if t603 < (t594.length : Int) then ((impl_FindTeam.f t586 t587).bind fun t605 => (if 0 ≤ t605 then (if t605 < (t586.length : Int) then (if ((rd_T61 t594 t603).f4) = (wrap64 (((rd_T61 t586 t605).f4) + 1)) then (laws_FnTeams.j0 k l0) else (some false)) else (none)) else (none))) else (none)) else (none))) else (some false))) else (some false)) = some r := H
   have A16 := Aside0.mk A160
   clear A160
   by_cases c17 : t601 = true
   rotate_left
   ·
    replace c17 := Bool.eq_false_iff.mpr c17
    subst c17
    have H1 : (some false) = some r := by rw [if_neg (show ¬ (false = true) by decide)] at H; exact H
    clear H
    have H := H1
    clear H1
    obtain rfl := Option.some.inj H
    try go_wp2
    have n0_ := Aside0.mk (Kd.S_drew HO593.out)
    have n1_ := Aside0.mk (Kd.S_drew HO597.out)
    have n2_ := Aside0.mk (below_drew1 HB.out)
    clear HO593
    clear HO597
    clear HB
    have HO593 := n0_
    have HO597 := n1_
    have HB := n2_
    clear n0_ n1_ n2_
    obtain ⟨Ao53, co53, eo53⟩ := Kd.S_slice HO597.out
    (first | subst eo53 | (injection eo53 with f1_ f2_ f3_; have f4_ := f1_.symm; have f5_ := f3_.symm; clear f1_ f2_ f3_; subst f4_; subst f5_))
    refine start_ (n := 43) (S := fun w' => True) (ds := []) (bv 43 0) (by kernel_rfl) rfl rfl trivial (fun hHeld => ?_); refine with_tabW laws_FnTeams.tab6 laws_FnTeams.bits6 (fun HT_ HW_ => ?_)
    generalize w9.drew = w52 at HO593 HO597 HB hHeld ⊢
    refine pv_ 43 0 38 1 rfl rfl HT_ ?_
    refine one_ (i := 1) (N := some 39) (bv 43 3) rfl rfl (one_of HT_.out (by kernel_rfl)) (by decide) (fun K hK => ?_)
    refine goes_ Try.func21 (by kernel_rfl) rfl #[.slice Ao53 t594.length co53] (by rfl) rfl rfl (by (try simp only [List.map_toArray, List.map_cons, List.map_nil]); first | done | rfl | (simp only [List.length_drop, List.length_take]; rfl)) ?_
    with_reducible refine (impl_AreTeams.calls k _ _ t594 true _ ?side1 ?side2 A11.out).mono ?_
    (case side1 => repeat (first | exact (Kd.S_reads' HO597.out).2.2 | (with_reducible refine Kd.C_alloc ?_ _) | (with_reducible refine Kd.C_drewN ?_ _) | (with_reducible refine Kd.C_drew ?_)))
    (case side2 => exact (Kd.S_reads' HO597.out).2.1)
    rintro e w54 ⟨rfl, hb⟩
    refine ⟨_, rfl, ?_⟩
    have n0_ := Aside0.mk (Kd.S_below (by (with_reducible repeat (first | apply Kd.S_alloc | apply Kd.S_drewN | apply Kd.S_drew)); exact HO593.out) hb)
    have n1_ := Aside0.mk (Kd.S_below (by (with_reducible repeat (first | apply Kd.S_alloc | apply Kd.S_drewN | apply Kd.S_drew)); exact HO597.out) hb)
    have n2_ := Aside0.mk (below_step (by repeat (first | (with_reducible first | exact HB.out | apply below_alloc | apply pw_below_drewN | apply below_drew1) | exact HB.out)) hb)
    clear HO593
    clear HO597
    clear HB
    have HO593 := n0_
    have HO597 := n1_
    have HB := n2_
    clear n0_ n1_ n2_
    (try clear hb)
    (try clear hb2)
    (try clear hk)
    (try clear hi)
    refine hK.out _ _ trivial (fun hHeld => ?_)
    clear hK K
    refine nm_ 39 ?_
    refine pv_ 43 2 40 7 rfl rfl HT_ ?_; refine pv_ 43 3 41 15 rfl rfl HT_ ?_; refine pv_ 43 4 42 31 rfl rfl HT_ ?_; refine pv_ 43 6 44 95 rfl rfl HT_ ?_
    refine one_ (i := 5) (N := some 43) (bv 43 127) rfl rfl (one_of HT_.out (by kernel_rfl)) (by decide) (fun K hK => ?_)
    refine goes_ Try.func25 (by kernel_rfl) rfl #[.slice Ao53 t594.length co53] (by rfl) rfl rfl (by (try simp only [List.map_toArray, List.map_cons, List.map_nil]); first | done | rfl | (simp only [List.length_drop, List.length_take]; rfl)) ?_
    with_reducible refine (impl_TotalWins.calls k _ _ t594 t599 _ ?side1 ?side2 A13.out).mono ?_
    (case side1 => repeat (first | exact (Kd.S_reads' HO597.out).2.2 | (with_reducible refine Kd.C_alloc ?_ _) | (with_reducible refine Kd.C_drewN ?_ _) | (with_reducible refine Kd.C_drew ?_)))
    (case side2 => exact (Kd.S_reads' HO597.out).2.1)
    rintro e w55 ⟨rfl, hb⟩
    refine ⟨_, rfl, ?_⟩
    have n0_ := Aside0.mk (Kd.S_below (by (with_reducible repeat (first | apply Kd.S_alloc | apply Kd.S_drewN | apply Kd.S_drew)); exact HO593.out) hb)
    have n1_ := Aside0.mk (Kd.S_below (by (with_reducible repeat (first | apply Kd.S_alloc | apply Kd.S_drewN | apply Kd.S_drew)); exact HO597.out) hb)
    have n2_ := Aside0.mk (below_step (by repeat (first | (with_reducible first | exact HB.out | apply below_alloc | apply pw_below_drewN | apply below_drew1) | exact HB.out)) hb)
    clear HO593
    clear HO597
    clear HB
    have HO593 := n0_
    have HO597 := n1_
    have HB := n2_
    clear n0_ n1_ n2_
    (try clear hb)
    (try clear hb2)
    (try clear hk)
    (try clear hi)
    refine hK.out _ _ trivial (fun hHeld => ?_)
    clear hK K
    refine nm_ 43 ?_
    refine one_ (i := 7) (N := some 45) (bv 43 255) rfl rfl (one_of HT_.out (by kernel_rfl)) (by decide) (fun K hK => ?_)
    refine goes_ Try.func25 (by kernel_rfl) rfl #[.slice Ao8 t586.length co8] (by rfl) rfl rfl (by (try simp only [List.map_toArray, List.map_cons, List.map_nil]); first | done | rfl | (simp only [List.length_drop, List.length_take]; rfl)) ?_
    with_reducible refine (impl_TotalWins.calls k _ _ t586 t600 _ ?side1 ?side2 A14.out).mono ?_
    (case side1 => repeat (first | exact (Kd.S_reads' HO593.out).2.2 | (with_reducible refine Kd.C_alloc ?_ _) | (with_reducible refine Kd.C_drewN ?_ _) | (with_reducible refine Kd.C_drew ?_)))
    (case side2 => exact (Kd.S_reads' HO593.out).2.1)
    rintro e w56 ⟨rfl, hb⟩
    refine ⟨_, rfl, ?_⟩
    have n0_ := Aside0.mk (Kd.S_below (by (with_reducible repeat (first | apply Kd.S_alloc | apply Kd.S_drewN | apply Kd.S_drew)); exact HO593.out) hb)
    have n1_ := Aside0.mk (Kd.S_below (by (with_reducible repeat (first | apply Kd.S_alloc | apply Kd.S_drewN | apply Kd.S_drew)); exact HO597.out) hb)
    have n2_ := Aside0.mk (below_step (by repeat (first | (with_reducible first | exact HB.out | apply below_alloc | apply pw_below_drewN | apply below_drew1) | exact HB.out)) hb)
    clear HO593
    clear HO597
    clear HB
    have HO593 := n0_
    have HO597 := n1_
    have HB := n2_
    clear n0_ n1_ n2_
    (try clear hb)
    (try clear hb2)
    (try clear hk)
    (try clear hi)
    refine hK.out _ _ trivial (fun hHeld => ?_)
    clear hK K
    refine nm_ 45 ?_
    refine pv_ 43 8 46 511 rfl rfl HT_ ?_; refine pv_ 43 9 47 1023 rfl rfl HT_ ?_; refine pv_ 43 10 48 2047 rfl rfl HT_ ?_; refine pv_ 43 11 49 4095 rfl rfl HT_ ?_; refine pv_ 43 12 50 8191 rfl rfl HT_ ?_; refine pv_ 43 13 51 16383 rfl rfl HT_ ?_; refine pv_ 43 14 52 32767 rfl rfl HT_ ?_
    refine one_ (i := 15) (N := some 53) (bv 43 65535) rfl rfl (one_of HT_.out (by kernel_rfl)) (by decide) (fun K hK => ?_)
    refine goes_ Try.func23 (by kernel_rfl) rfl #[.slice Ao53 t594.length co53, .int .i64 t587, .int .i64 t588] (by rfl) rfl rfl (by (try simp only [List.map_toArray, List.map_cons, List.map_nil]); first | done | rfl | (simp only [List.length_drop, List.length_take]; rfl)) ?_
    with_reducible refine (impl_HaveMet.calls k _ _ t594 t587 t588 false _ ?side1 ?side2 A16.out).mono ?_
    (case side1 => repeat (first | exact (Kd.S_reads' HO597.out).2.2 | (with_reducible refine Kd.C_alloc ?_ _) | (with_reducible refine Kd.C_drewN ?_ _) | (with_reducible refine Kd.C_drew ?_)))
    (case side2 => exact (Kd.S_reads' HO597.out).2.1)
    rintro e w57 ⟨rfl, hb⟩
    refine ⟨_, rfl, ?_⟩
    have n0_ := Aside0.mk (Kd.S_below (by (with_reducible repeat (first | apply Kd.S_alloc | apply Kd.S_drewN | apply Kd.S_drew)); exact HO593.out) hb)
    have n1_ := Aside0.mk (Kd.S_below (by (with_reducible repeat (first | apply Kd.S_alloc | apply Kd.S_drewN | apply Kd.S_drew)); exact HO597.out) hb)
    have n2_ := Aside0.mk (below_step (by repeat (first | (with_reducible first | exact HB.out | apply below_alloc | apply pw_below_drewN | apply below_drew1) | exact HB.out)) hb)
    clear HO593
    clear HO597
    clear HB
    have HO593 := n0_
    have HO597 := n1_
    have HB := n2_
    clear n0_ n1_ n2_
    (try clear hb)
    (try clear hb2)
    (try clear hk)
    (try clear hi)
    refine hK.out _ _ trivial (fun hHeld => ?_)
    clear hK K
    refine nm_ 53 ?_
    refine pv_ 43 16 54 131071 rfl rfl HT_ ?_; refine pv_ 43 17 55 262143 rfl rfl HT_ ?_; refine pv_ 43 18 56 524287 rfl rfl HT_ ?_; refine pu_ 43 19 57 1048575 rfl rfl HT_ ?_; refine pu_ 43 20 58 2097151 rfl rfl HT_ ?_; refine pu_ 43 21 59 4194303 rfl rfl HT_ ?_; refine pu_ 43 22 60 8388607 rfl rfl HT_ ?_; refine pu_ 43 23 61 16777215 rfl rfl HT_ ?_; refine pv_ 43 24 62 33554431 rfl rfl HT_ ?_; refine pv_ 43 25 63 67108863 rfl rfl HT_ ?_; refine pu_ 43 26 64 134217727 rfl rfl HT_ ?_; refine pu_ 43 27 65 268435455 rfl rfl HT_ ?_; refine pu_ 43 28 66 536870911 rfl rfl HT_ ?_; refine pu_ 43 29 67 1073741823 rfl rfl HT_ ?_; refine pu_ 43 30 68 2147483647 rfl rfl HT_ ?_; refine pu_ 43 31 69 4294967295 rfl rfl HT_ ?_; refine pu_ 43 32 70 8589934591 rfl rfl HT_ ?_; refine pu_ 43 33 71 17179869183 rfl rfl HT_ ?_; refine pu_ 43 34 72 34359738367 rfl rfl HT_ ?_; refine pu_ 43 35 73 68719476735 rfl rfl HT_ ?_
    refine pu_ 43 36 74 137438953471 rfl rfl HT_ ?_; refine pu_ 43 37 75 274877906943 rfl rfl HT_ ?_; refine pu_ 43 38 76 549755813887 rfl rfl HT_ ?_; refine pu_ 43 39 77 1099511627775 rfl rfl HT_ ?_; refine pu_ 43 40 78 2199023255551 rfl rfl HT_ ?_; refine pu_ 43 41 79 4398046511103 rfl rfl HT_ ?_; refine pv_ 43 42 80 8796093022207 rfl rfl HT_ ?_
    refine done_ (done_of HT_.out (by kernel_rfl)) ?_
    try go_wp2
    all_goals (go_ret; exact ⟨by first | rfl | (simp [errW_none, errW_some] <;> rfl) | (simp [*, errW_none, errW_some] <;> rfl), by repeat (first | (with_reducible first | exact HB.out | apply below_alloc | apply pw_below_drewN | apply below_drew1) | exact HB.out)⟩)
   subst c17
   have H1 : ((impl_HaveMet.f k t594 t588 t587).bind fun t602 => (if t602 = true then ((impl_FindTeam.f t594 t587).bind fun t603 => (if 0 ≤ t603 then (if t603 < (t594.length : Int) then ((impl_FindTeam.f t586 t587).bind fun t605 => (if 0 ≤ t605 then (if t605 < (t586.length : Int) then (if ((rd_T61 t594 t603).f4) = (wrap64 (((rd_T61 t586 t605).f4) + 1)) then (laws_FnTeams.j0 k l0) else (some false)) else (none)) else (none))) else (none)) else (none))) else (some false))) = some r := by rw [if_pos rfl] at H; exact H
   clear H
   have H := H1
   clear H1
   replace H := Option.bind_eq_some_iff.mp H
   obtain ⟨t602, A180, H⟩ := H
   replace H : (if t602 = true then ((impl_FindTeam.f t594 t587).bind fun t603 => (if 0 ≤ t603 then (if t603 < (t594.length : Int) then ((impl_FindTeam.f t586 t587).bind fun t605 => (if 0 ≤ t605 then (if t605 < (t586.length : Int) then (if ((rd_T61 t594 t603).f4) = (wrap64 (((rd_T61 t586 t605).f4) + 1)) then (laws_FnTeams.j0 k l0) else (some false)) else (none)) else (none))) else (none)) else (none))) else (some false)) = some r := H
   have A18 := Aside0.mk A180
   clear A180
   by_cases c19 : t602 = true
   rotate_left
   ·
    replace c19 := Bool.eq_false_iff.mpr c19
    subst c19
    have H1 : (some false) = some r := by rw [if_neg (show ¬ (false = true) by decide)] at H; exact H
    clear H
    have H := H1
    clear H1
    obtain rfl := Option.some.inj H
    try go_wp2
    have n0_ := Aside0.mk (Kd.S_drew HO593.out)
    have n1_ := Aside0.mk (Kd.S_drew HO597.out)
    have n2_ := Aside0.mk (below_drew1 HB.out)
    clear HO593
    clear HO597
    clear HB
    have HO593 := n0_
    have HO597 := n1_
    have HB := n2_
    clear n0_ n1_ n2_
    obtain ⟨Ao46, co46, eo46⟩ := Kd.S_slice HO597.out
    (first | subst eo46 | (injection eo46 with f1_ f2_ f3_; have f4_ := f1_.symm; have f5_ := f3_.symm; clear f1_ f2_ f3_; subst f4_; subst f5_))
    refine start_ (n := 43) (S := fun w' => True) (ds := []) (bv 43 0) (by kernel_rfl) rfl rfl trivial (fun hHeld => ?_); refine with_tabW laws_FnTeams.tab6 laws_FnTeams.bits6 (fun HT_ HW_ => ?_)
    generalize w9.drew = w45 at HO593 HO597 HB hHeld ⊢
    refine pv_ 43 0 38 1 rfl rfl HT_ ?_
    refine one_ (i := 1) (N := some 39) (bv 43 3) rfl rfl (one_of HT_.out (by kernel_rfl)) (by decide) (fun K hK => ?_)
    refine goes_ Try.func21 (by kernel_rfl) rfl #[.slice Ao46 t594.length co46] (by rfl) rfl rfl (by (try simp only [List.map_toArray, List.map_cons, List.map_nil]); first | done | rfl | (simp only [List.length_drop, List.length_take]; rfl)) ?_
    with_reducible refine (impl_AreTeams.calls k _ _ t594 true _ ?side1 ?side2 A11.out).mono ?_
    (case side1 => repeat (first | exact (Kd.S_reads' HO597.out).2.2 | (with_reducible refine Kd.C_alloc ?_ _) | (with_reducible refine Kd.C_drewN ?_ _) | (with_reducible refine Kd.C_drew ?_)))
    (case side2 => exact (Kd.S_reads' HO597.out).2.1)
    rintro e w47 ⟨rfl, hb⟩
    refine ⟨_, rfl, ?_⟩
    have n0_ := Aside0.mk (Kd.S_below (by (with_reducible repeat (first | apply Kd.S_alloc | apply Kd.S_drewN | apply Kd.S_drew)); exact HO593.out) hb)
    have n1_ := Aside0.mk (Kd.S_below (by (with_reducible repeat (first | apply Kd.S_alloc | apply Kd.S_drewN | apply Kd.S_drew)); exact HO597.out) hb)
    have n2_ := Aside0.mk (below_step (by repeat (first | (with_reducible first | exact HB.out | apply below_alloc | apply pw_below_drewN | apply below_drew1) | exact HB.out)) hb)
    clear HO593
    clear HO597
    clear HB
    have HO593 := n0_
    have HO597 := n1_
    have HB := n2_
    clear n0_ n1_ n2_
    (try clear hb)
    (try clear hb2)
    (try clear hk)
    (try clear hi)
    refine hK.out _ _ trivial (fun hHeld => ?_)
    clear hK K
    refine nm_ 39 ?_
    refine pv_ 43 2 40 7 rfl rfl HT_ ?_; refine pv_ 43 3 41 15 rfl rfl HT_ ?_; refine pv_ 43 4 42 31 rfl rfl HT_ ?_; refine pv_ 43 6 44 95 rfl rfl HT_ ?_
    refine one_ (i := 5) (N := some 43) (bv 43 127) rfl rfl (one_of HT_.out (by kernel_rfl)) (by decide) (fun K hK => ?_)
    refine goes_ Try.func25 (by kernel_rfl) rfl #[.slice Ao46 t594.length co46] (by rfl) rfl rfl (by (try simp only [List.map_toArray, List.map_cons, List.map_nil]); first | done | rfl | (simp only [List.length_drop, List.length_take]; rfl)) ?_
    with_reducible refine (impl_TotalWins.calls k _ _ t594 t599 _ ?side1 ?side2 A13.out).mono ?_
    (case side1 => repeat (first | exact (Kd.S_reads' HO597.out).2.2 | (with_reducible refine Kd.C_alloc ?_ _) | (with_reducible refine Kd.C_drewN ?_ _) | (with_reducible refine Kd.C_drew ?_)))
    (case side2 => exact (Kd.S_reads' HO597.out).2.1)
    rintro e w48 ⟨rfl, hb⟩
    refine ⟨_, rfl, ?_⟩
    have n0_ := Aside0.mk (Kd.S_below (by (with_reducible repeat (first | apply Kd.S_alloc | apply Kd.S_drewN | apply Kd.S_drew)); exact HO593.out) hb)
    have n1_ := Aside0.mk (Kd.S_below (by (with_reducible repeat (first | apply Kd.S_alloc | apply Kd.S_drewN | apply Kd.S_drew)); exact HO597.out) hb)
    have n2_ := Aside0.mk (below_step (by repeat (first | (with_reducible first | exact HB.out | apply below_alloc | apply pw_below_drewN | apply below_drew1) | exact HB.out)) hb)
    clear HO593
    clear HO597
    clear HB
    have HO593 := n0_
    have HO597 := n1_
    have HB := n2_
    clear n0_ n1_ n2_
    (try clear hb)
    (try clear hb2)
    (try clear hk)
    (try clear hi)
    refine hK.out _ _ trivial (fun hHeld => ?_)
    clear hK K
    refine nm_ 43 ?_
    refine one_ (i := 7) (N := some 45) (bv 43 255) rfl rfl (one_of HT_.out (by kernel_rfl)) (by decide) (fun K hK => ?_)
    refine goes_ Try.func25 (by kernel_rfl) rfl #[.slice Ao8 t586.length co8] (by rfl) rfl rfl (by (try simp only [List.map_toArray, List.map_cons, List.map_nil]); first | done | rfl | (simp only [List.length_drop, List.length_take]; rfl)) ?_
    with_reducible refine (impl_TotalWins.calls k _ _ t586 t600 _ ?side1 ?side2 A14.out).mono ?_
    (case side1 => repeat (first | exact (Kd.S_reads' HO593.out).2.2 | (with_reducible refine Kd.C_alloc ?_ _) | (with_reducible refine Kd.C_drewN ?_ _) | (with_reducible refine Kd.C_drew ?_)))
    (case side2 => exact (Kd.S_reads' HO593.out).2.1)
    rintro e w49 ⟨rfl, hb⟩
    refine ⟨_, rfl, ?_⟩
    have n0_ := Aside0.mk (Kd.S_below (by (with_reducible repeat (first | apply Kd.S_alloc | apply Kd.S_drewN | apply Kd.S_drew)); exact HO593.out) hb)
    have n1_ := Aside0.mk (Kd.S_below (by (with_reducible repeat (first | apply Kd.S_alloc | apply Kd.S_drewN | apply Kd.S_drew)); exact HO597.out) hb)
    have n2_ := Aside0.mk (below_step (by repeat (first | (with_reducible first | exact HB.out | apply below_alloc | apply pw_below_drewN | apply below_drew1) | exact HB.out)) hb)
    clear HO593
    clear HO597
    clear HB
    have HO593 := n0_
    have HO597 := n1_
    have HB := n2_
    clear n0_ n1_ n2_
    (try clear hb)
    (try clear hb2)
    (try clear hk)
    (try clear hi)
    refine hK.out _ _ trivial (fun hHeld => ?_)
    clear hK K
    refine nm_ 45 ?_
    refine pv_ 43 8 46 511 rfl rfl HT_ ?_; refine pv_ 43 9 47 1023 rfl rfl HT_ ?_; refine pv_ 43 10 48 2047 rfl rfl HT_ ?_; refine pv_ 43 11 49 4095 rfl rfl HT_ ?_; refine pv_ 43 12 50 8191 rfl rfl HT_ ?_; refine pv_ 43 13 51 16383 rfl rfl HT_ ?_; refine pv_ 43 14 52 32767 rfl rfl HT_ ?_
    refine one_ (i := 15) (N := some 53) (bv 43 65535) rfl rfl (one_of HT_.out (by kernel_rfl)) (by decide) (fun K hK => ?_)
    refine goes_ Try.func23 (by kernel_rfl) rfl #[.slice Ao46 t594.length co46, .int .i64 t587, .int .i64 t588] (by rfl) rfl rfl (by (try simp only [List.map_toArray, List.map_cons, List.map_nil]); first | done | rfl | (simp only [List.length_drop, List.length_take]; rfl)) ?_
    with_reducible refine (impl_HaveMet.calls k _ _ t594 t587 t588 true _ ?side1 ?side2 A16.out).mono ?_
    (case side1 => repeat (first | exact (Kd.S_reads' HO597.out).2.2 | (with_reducible refine Kd.C_alloc ?_ _) | (with_reducible refine Kd.C_drewN ?_ _) | (with_reducible refine Kd.C_drew ?_)))
    (case side2 => exact (Kd.S_reads' HO597.out).2.1)
    rintro e w50 ⟨rfl, hb⟩
    refine ⟨_, rfl, ?_⟩
    have n0_ := Aside0.mk (Kd.S_below (by (with_reducible repeat (first | apply Kd.S_alloc | apply Kd.S_drewN | apply Kd.S_drew)); exact HO593.out) hb)
    have n1_ := Aside0.mk (Kd.S_below (by (with_reducible repeat (first | apply Kd.S_alloc | apply Kd.S_drewN | apply Kd.S_drew)); exact HO597.out) hb)
    have n2_ := Aside0.mk (below_step (by repeat (first | (with_reducible first | exact HB.out | apply below_alloc | apply pw_below_drewN | apply below_drew1) | exact HB.out)) hb)
    clear HO593
    clear HO597
    clear HB
    have HO593 := n0_
    have HO597 := n1_
    have HB := n2_
    clear n0_ n1_ n2_
    (try clear hb)
    (try clear hb2)
    (try clear hk)
    (try clear hi)
    refine hK.out _ _ trivial (fun hHeld => ?_)
    clear hK K
    refine nm_ 53 ?_
    refine pv_ 43 16 54 131071 rfl rfl HT_ ?_; refine pv_ 43 17 55 262143 rfl rfl HT_ ?_; refine pv_ 43 18 56 524287 rfl rfl HT_ ?_; refine pv_ 43 19 57 1048575 rfl rfl HT_ ?_; refine pv_ 43 20 58 2097151 rfl rfl HT_ ?_; refine pv_ 43 21 59 4194303 rfl rfl HT_ ?_
    refine one_ (i := 22) (N := some 60) (bv 43 8388607) rfl rfl (one_of HT_.out (by kernel_rfl)) (by decide) (fun K hK => ?_)
    refine goes_ Try.func23 (by kernel_rfl) rfl #[.slice Ao46 t594.length co46, .int .i64 t588, .int .i64 t587] (by rfl) rfl rfl (by (try simp only [List.map_toArray, List.map_cons, List.map_nil]); first | done | rfl | (simp only [List.length_drop, List.length_take]; rfl)) ?_
    with_reducible refine (impl_HaveMet.calls k _ _ t594 t588 t587 false _ ?side1 ?side2 A18.out).mono ?_
    (case side1 => repeat (first | exact (Kd.S_reads' HO597.out).2.2 | (with_reducible refine Kd.C_alloc ?_ _) | (with_reducible refine Kd.C_drewN ?_ _) | (with_reducible refine Kd.C_drew ?_)))
    (case side2 => exact (Kd.S_reads' HO597.out).2.1)
    rintro e w51 ⟨rfl, hb⟩
    refine ⟨_, rfl, ?_⟩
    have n0_ := Aside0.mk (Kd.S_below (by (with_reducible repeat (first | apply Kd.S_alloc | apply Kd.S_drewN | apply Kd.S_drew)); exact HO593.out) hb)
    have n1_ := Aside0.mk (Kd.S_below (by (with_reducible repeat (first | apply Kd.S_alloc | apply Kd.S_drewN | apply Kd.S_drew)); exact HO597.out) hb)
    have n2_ := Aside0.mk (below_step (by repeat (first | (with_reducible first | exact HB.out | apply below_alloc | apply pw_below_drewN | apply below_drew1) | exact HB.out)) hb)
    clear HO593
    clear HO597
    clear HB
    have HO593 := n0_
    have HO597 := n1_
    have HB := n2_
    clear n0_ n1_ n2_
    (try clear hb)
    (try clear hb2)
    (try clear hk)
    (try clear hi)
    refine hK.out _ _ trivial (fun hHeld => ?_)
    clear hK K
    refine nm_ 60 ?_
    refine pv_ 43 23 61 16777215 rfl rfl HT_ ?_; refine pv_ 43 24 62 33554431 rfl rfl HT_ ?_; refine pv_ 43 25 63 67108863 rfl rfl HT_ ?_; refine pu_ 43 26 64 134217727 rfl rfl HT_ ?_; refine pu_ 43 27 65 268435455 rfl rfl HT_ ?_; refine pu_ 43 28 66 536870911 rfl rfl HT_ ?_; refine pu_ 43 29 67 1073741823 rfl rfl HT_ ?_; refine pu_ 43 30 68 2147483647 rfl rfl HT_ ?_; refine pu_ 43 31 69 4294967295 rfl rfl HT_ ?_; refine pu_ 43 32 70 8589934591 rfl rfl HT_ ?_; refine pu_ 43 33 71 17179869183 rfl rfl HT_ ?_; refine pu_ 43 34 72 34359738367 rfl rfl HT_ ?_; refine pu_ 43 35 73 68719476735 rfl rfl HT_ ?_; refine pu_ 43 36 74 137438953471 rfl rfl HT_ ?_; refine pu_ 43 37 75 274877906943 rfl rfl HT_ ?_; refine pu_ 43 38 76 549755813887 rfl rfl HT_ ?_; refine pu_ 43 39 77 1099511627775 rfl rfl HT_ ?_; refine pu_ 43 40 78 2199023255551 rfl rfl HT_ ?_; refine pu_ 43 41 79 4398046511103 rfl rfl HT_ ?_
    refine pv_ 43 42 80 8796093022207 rfl rfl HT_ ?_
    refine done_ (done_of HT_.out (by kernel_rfl)) ?_
    try go_wp2
    all_goals (go_ret; exact ⟨by first | rfl | (simp [errW_none, errW_some] <;> rfl) | (simp [*, errW_none, errW_some] <;> rfl), by repeat (first | (with_reducible first | exact HB.out | apply below_alloc | apply pw_below_drewN | apply below_drew1) | exact HB.out)⟩)
   subst c19
   have H1 : ((impl_FindTeam.f t594 t587).bind fun t603 => (if 0 ≤ t603 then (if t603 < (t594.length : Int) then ((impl_FindTeam.f t586 t587).bind fun t605 => (if 0 ≤ t605 then (if t605 < (t586.length : Int) then (if ((rd_T61 t594 t603).f4) = (wrap64 (((rd_T61 t586 t605).f4) + 1)) then (laws_FnTeams.j0 k l0) else (some false)) else (none)) else (none))) else (none)) else (none))) = some r := by rw [if_pos rfl] at H; exact H
   clear H
   have H := H1
   clear H1
   replace H := Option.bind_eq_some_iff.mp H
   obtain ⟨t603, A200, H⟩ := H
   replace H : (if 0 ≤ t603 then (if t603 < (t594.length : Int) then ((impl_FindTeam.f t586 t587).bind fun t605 => (if 0 ≤ t605 then (if t605 < (t586.length : Int) then (if ((rd_T61 t594 t603).f4) = (wrap64 (((rd_T61 t586 t605).f4) + 1)) then (laws_FnTeams.j0 k l0) else (some false)) else (none)) else (none))) else (none)) else (none)) = some r := H
   have A20 := Aside0.mk A200
   clear A200
   by_cases c21 : 0 ≤ t603
   rotate_left
   ·
    rw [if_neg c21] at H
    exact absurd H (by simp)
   rw [if_pos c21] at H
   have c21b0 : decide (0 ≤ t603) = true := decide_eq_true c21
   clear c21
   by_cases c22 : t603 < (t594.length : Int)
   rotate_left
   ·
    rw [if_neg c22] at H
    exact absurd H (by simp)
   rw [if_pos c22] at H
   have c22b0 : decide (t603 < (t594.length : Int)) = true := decide_eq_true c22
   clear c22
   replace H := Option.bind_eq_some_iff.mp H
   obtain ⟨t605, A230, H⟩ := H
   replace H : (if 0 ≤ t605 then (if t605 < (t586.length : Int) then (if ((rd_T61 t594 t603).f4) = (wrap64 (((rd_T61 t586 t605).f4) + 1)) then (laws_FnTeams.j0 k l0) else (some false)) else (none)) else (none)) = some r := H
   have A23 := Aside0.mk A230
   clear A230
   by_cases c24 : 0 ≤ t605
   rotate_left
   ·
    rw [if_neg c24] at H
    exact absurd H (by simp)
   rw [if_pos c24] at H
   have c24b0 : decide (0 ≤ t605) = true := decide_eq_true c24
   clear c24
   by_cases c25 : t605 < (t586.length : Int)
   rotate_left
   ·
    rw [if_neg c25] at H
    exact absurd H (by simp)
   rw [if_pos c25] at H
   have c25b0 : decide (t605 < (t586.length : Int)) = true := decide_eq_true c25
   clear c25
   by_cases c26 : ((rd_T61 t594 t603).f4) = (wrap64 (((rd_T61 t586 t605).f4) + 1))
   rotate_left
   ·
    rw [if_neg c26] at H
    have c26b0 : (((rd_T61 t594 t603).f4) == (wrap64 (((rd_T61 t586 t605).f4) + 1))) = false := beq_eq_false_iff_ne.mpr c26
    have c26b1 : (((rd_T61 t594 t603).f4) != (wrap64 (((rd_T61 t586 t605).f4) + 1))) = true := bne_iff_ne.mpr c26
    obtain rfl := Option.some.inj H
    try go_wp2
    have n0_ := Aside0.mk (Kd.S_drew HO593.out)
    have n1_ := Aside0.mk (Kd.S_drew HO597.out)
    have n2_ := Aside0.mk (below_drew1 HB.out)
    clear HO593
    clear HO597
    clear HB
    have HO593 := n0_
    have HO597 := n1_
    have HB := n2_
    clear n0_ n1_ n2_
    obtain ⟨Ao37, co37, eo37⟩ := Kd.S_slice HO597.out
    (first | subst eo37 | (injection eo37 with f1_ f2_ f3_; have f4_ := f1_.symm; have f5_ := f3_.symm; clear f1_ f2_ f3_; subst f4_; subst f5_))
    have p604 : 0 ≤ (t603 : Int) := of_decide_eq_true (by first | (with_reducible assumption) | assumption)
    have q604 : t603 < (t594.length : Int) := of_decide_eq_true (by first | (with_reducible assumption) | assumption)
    obtain ⟨ad604, A604_5, c604_5, e604, hx604_0, hx604_1, hx604_2, hx604_3, hx604_4, hx604_5, hl604_5, hi604_5⟩ := at_T61 (Kd.S_reads' HO597.out).2.2 t603 p604 q604
    cases e604
    obtain ⟨ce604, hce604, hMe604, hcc604⟩ := Kd.S_get HO597.out z61 t603 p604 (by first | exact q604 | exact of_decide_eq_true (by first | (with_reducible assumption) | assumption) | (have e_ := (Kd.S_reads' HO597.out).1; omega))
    obtain ⟨ve604_5, rfl, ge604_5⟩ := k61_openM hMe604
    have hv604_5 := hcc604 5 _ rfl
    rw [add_field _ _ 5 (by omega)] at hv604_5
    replace hv604_5 := Option.some.inj (hv604_5.symm.trans hx604_5)
    rw [hv604_5] at ge604_5
    have HL604_5 := Aside0.mk (show Kd.R (Kd.int .i64) 3 _ _ _ _ ((rd_T61 t594 t603).f5) from ge604_5)
    clear hv604_5 ge604_5
    clear hcc604 hce604
    have HR604_5 := Aside0.mk hi604_5
    have HC604_5 := Aside0.mk hl604_5
    clear hi604_5 hl604_5
    replace p604 := eq_true p604
    replace q604 := eq_true q604
    have p606 : 0 ≤ (t605 : Int) := of_decide_eq_true (by first | (with_reducible assumption) | assumption)
    have q606 : t605 < (t586.length : Int) := of_decide_eq_true (by first | (with_reducible assumption) | assumption)
    obtain ⟨ad606, A606_5, c606_5, e606, hx606_0, hx606_1, hx606_2, hx606_3, hx606_4, hx606_5, hl606_5, hi606_5⟩ := at_T61 (Kd.S_reads' HO593.out).2.2 t605 p606 q606
    cases e606
    obtain ⟨ce606, hce606, hMe606, hcc606⟩ := Kd.S_get HO593.out z61 t605 p606 (by first | exact q606 | exact of_decide_eq_true (by first | (with_reducible assumption) | assumption) | (have e_ := (Kd.S_reads' HO593.out).1; omega))
    obtain ⟨ve606_5, rfl, ge606_5⟩ := k61_openM hMe606
    have hv606_5 := hcc606 5 _ rfl
    rw [add_field _ _ 5 (by omega)] at hv606_5
    replace hv606_5 := Option.some.inj (hv606_5.symm.trans hx606_5)
    rw [hv606_5] at ge606_5
    have HL606_5 := Aside0.mk (show Kd.R (Kd.int .i64) 3 _ _ _ _ ((rd_T61 t586 t605).f5) from ge606_5)
    clear hv606_5 ge606_5
    clear hcc606 hce606
    have HR606_5 := Aside0.mk hi606_5
    have HC606_5 := Aside0.mk hl606_5
    clear hi606_5 hl606_5
    replace p606 := eq_true p606
    replace q606 := eq_true q606
    refine start_ (n := 43) (S := fun w' => w'.cell? (ad604.add ((t603).toNat * 6)) = some (.int .i64 ((rd_T61 t594 t603).f0)) ∧ w'.cell? ⟨(ad604.add ((t603).toNat * 6)).block, (ad604.add ((t603).toNat * 6)).off + 1, none⟩ = some (.int .i64 ((rd_T61 t594 t603).f1)) ∧ w'.cell? ⟨(ad604.add ((t603).toNat * 6)).block, (ad604.add ((t603).toNat * 6)).off + 2, none⟩ = some (.int .i64 ((rd_T61 t594 t603).f2)) ∧ w'.cell? ⟨(ad604.add ((t603).toNat * 6)).block, (ad604.add ((t603).toNat * 6)).off + 3, none⟩ = some (.int .i64 ((rd_T61 t594 t603).f3)) ∧ w'.cell? ⟨(ad604.add ((t603).toNat * 6)).block, (ad604.add ((t603).toNat * 6)).off + 4, none⟩ = some (.int .i64 ((rd_T61 t594 t603).f4)) ∧ w'.cell? ⟨(ad604.add ((t603).toNat * 6)).block, (ad604.add ((t603).toNat * 6)).off + 5, none⟩ = some (.slice A604_5 ((rd_T61 t594 t603).f5).length c604_5) ∧ w'.cell? (ad606.add ((t605).toNat * 6)) = some (.int .i64 ((rd_T61 t586 t605).f0)) ∧ w'.cell? ⟨(ad606.add ((t605).toNat * 6)).block, (ad606.add ((t605).toNat * 6)).off + 1, none⟩ = some (.int .i64 ((rd_T61 t586 t605).f1)) ∧ w'.cell? ⟨(ad606.add ((t605).toNat * 6)).block, (ad606.add ((t605).toNat * 6)).off + 2, none⟩ = some (.int .i64 ((rd_T61 t586 t605).f2)) ∧ w'.cell? ⟨(ad606.add ((t605).toNat * 6)).block, (ad606.add ((t605).toNat * 6)).off + 3, none⟩ = some (.int .i64 ((rd_T61 t586 t605).f3)) ∧ w'.cell? ⟨(ad606.add ((t605).toNat * 6)).block, (ad606.add ((t605).toNat * 6)).off + 4, none⟩ = some (.int .i64 ((rd_T61 t586 t605).f4)) ∧ w'.cell? ⟨(ad606.add ((t605).toNat * 6)).block, (ad606.add ((t605).toNat * 6)).off + 5, none⟩ = some (.slice A606_5 ((rd_T61 t586 t605).f5).length c606_5)) (ds := []) (bv 43 0) (by kernel_rfl) rfl rfl ⟨hx604_0, hx604_1, hx604_2, hx604_3, hx604_4, hx604_5, hx606_0, hx606_1, hx606_2, hx606_3, hx606_4, hx606_5⟩ (fun hHeld => ?_); refine with_tabW laws_FnTeams.tab6 laws_FnTeams.bits6 (fun HT_ HW_ => ?_)
    generalize w9.drew = w36 at HO593 HO597 HB HL604_5 HL606_5 HR604_5 HR606_5 hx604_0 hx604_1 hx604_2 hx604_3 hx604_4 hx604_5 hx606_0 hx606_1 hx606_2 hx606_3 hx606_4 hx606_5 hHeld ⊢
    refine pv_ 43 0 38 1 rfl rfl HT_ ?_
    refine one_ (i := 1) (N := some 39) (bv 43 3) rfl rfl (one_of HT_.out (by kernel_rfl)) (by decide) (fun K hK => ?_)
    refine goes_ Try.func21 (by kernel_rfl) rfl #[.slice (some ad604) t594.length co37] (by rfl) rfl rfl (by (try simp only [List.map_toArray, List.map_cons, List.map_nil]); first | done | rfl | (simp only [List.length_drop, List.length_take]; rfl)) ?_
    with_reducible refine (impl_AreTeams.calls k _ _ t594 true _ ?side1 ?side2 A11.out).mono ?_
    (case side1 => repeat (first | exact (Kd.S_reads' HO597.out).2.2 | (with_reducible refine Kd.C_alloc ?_ _) | (with_reducible refine Kd.C_drewN ?_ _) | (with_reducible refine Kd.C_drew ?_)))
    (case side2 => exact (Kd.S_reads' HO597.out).2.1)
    rintro e w38 ⟨rfl, hb⟩
    have HS0_ := (hb.cell (World.block_lt_of_cell? _ _ (hHeld.1))).trans (hHeld.1)
    have HS1_ := (hb.cell (World.block_lt_of_cell? _ _ (hHeld.2.1))).trans (hHeld.2.1)
    have HS2_ := (hb.cell (World.block_lt_of_cell? _ _ (hHeld.2.2.1))).trans (hHeld.2.2.1)
    have HS3_ := (hb.cell (World.block_lt_of_cell? _ _ (hHeld.2.2.2.1))).trans (hHeld.2.2.2.1)
    have HS4_ := (hb.cell (World.block_lt_of_cell? _ _ (hHeld.2.2.2.2.1))).trans (hHeld.2.2.2.2.1)
    have HS5_ := (hb.cell (World.block_lt_of_cell? _ _ (hHeld.2.2.2.2.2.1))).trans (hHeld.2.2.2.2.2.1)
    have HS6_ := (hb.cell (World.block_lt_of_cell? _ _ (hHeld.2.2.2.2.2.2.1))).trans (hHeld.2.2.2.2.2.2.1)
    have HS7_ := (hb.cell (World.block_lt_of_cell? _ _ (hHeld.2.2.2.2.2.2.2.1))).trans (hHeld.2.2.2.2.2.2.2.1)
    have HS8_ := (hb.cell (World.block_lt_of_cell? _ _ (hHeld.2.2.2.2.2.2.2.2.1))).trans (hHeld.2.2.2.2.2.2.2.2.1)
    have HS9_ := (hb.cell (World.block_lt_of_cell? _ _ (hHeld.2.2.2.2.2.2.2.2.2.1))).trans (hHeld.2.2.2.2.2.2.2.2.2.1)
    have HS10_ := (hb.cell (World.block_lt_of_cell? _ _ (hHeld.2.2.2.2.2.2.2.2.2.2.1))).trans (hHeld.2.2.2.2.2.2.2.2.2.2.1)
    have HS11_ := (hb.cell (World.block_lt_of_cell? _ _ (hHeld.2.2.2.2.2.2.2.2.2.2.2))).trans (hHeld.2.2.2.2.2.2.2.2.2.2.2)
    refine ⟨_, rfl, ?_⟩
    have n0_ := Aside0.mk (Kd.S_below (by (with_reducible repeat (first | apply Kd.S_alloc | apply Kd.S_drewN | apply Kd.S_drew)); exact HO593.out) hb)
    have n1_ := Aside0.mk (Kd.S_below (by (with_reducible repeat (first | apply Kd.S_alloc | apply Kd.S_drewN | apply Kd.S_drew)); exact HO597.out) hb)
    have n2_ := Aside0.mk (below_step (by repeat (first | (with_reducible first | exact HB.out | apply below_alloc | apply pw_below_drewN | apply below_drew1) | exact HB.out)) hb)
    clear HO593
    clear HO597
    clear HB
    have HO593 := n0_
    have HO597 := n1_
    have HB := n2_
    clear n0_ n1_ n2_
    (try clear hb)
    (try clear hb2)
    (try clear hk)
    (try clear hi)
    refine hK.out _ _ ⟨HS0_, HS1_, HS2_, HS3_, HS4_, HS5_, HS6_, HS7_, HS8_, HS9_, HS10_, HS11_⟩ (fun hHeld => ?_)
    clear hK K
    refine nm_ 39 ?_
    refine pv_ 43 2 40 7 rfl rfl HT_ ?_; refine pv_ 43 3 41 15 rfl rfl HT_ ?_; refine pv_ 43 4 42 31 rfl rfl HT_ ?_; refine pv_ 43 6 44 95 rfl rfl HT_ ?_
    refine one_ (i := 5) (N := some 43) (bv 43 127) rfl rfl (one_of HT_.out (by kernel_rfl)) (by decide) (fun K hK => ?_)
    refine goes_ Try.func25 (by kernel_rfl) rfl #[.slice (some ad604) t594.length co37] (by rfl) rfl rfl (by (try simp only [List.map_toArray, List.map_cons, List.map_nil]); first | done | rfl | (simp only [List.length_drop, List.length_take]; rfl)) ?_
    with_reducible refine (impl_TotalWins.calls k _ _ t594 t599 _ ?side1 ?side2 A13.out).mono ?_
    (case side1 => repeat (first | exact (Kd.S_reads' HO597.out).2.2 | (with_reducible refine Kd.C_alloc ?_ _) | (with_reducible refine Kd.C_drewN ?_ _) | (with_reducible refine Kd.C_drew ?_)))
    (case side2 => exact (Kd.S_reads' HO597.out).2.1)
    rintro e w39 ⟨rfl, hb⟩
    have HS0_ := (hb.cell (World.block_lt_of_cell? _ _ (hHeld.1))).trans (hHeld.1)
    have HS1_ := (hb.cell (World.block_lt_of_cell? _ _ (hHeld.2.1))).trans (hHeld.2.1)
    have HS2_ := (hb.cell (World.block_lt_of_cell? _ _ (hHeld.2.2.1))).trans (hHeld.2.2.1)
    have HS3_ := (hb.cell (World.block_lt_of_cell? _ _ (hHeld.2.2.2.1))).trans (hHeld.2.2.2.1)
    have HS4_ := (hb.cell (World.block_lt_of_cell? _ _ (hHeld.2.2.2.2.1))).trans (hHeld.2.2.2.2.1)
    have HS5_ := (hb.cell (World.block_lt_of_cell? _ _ (hHeld.2.2.2.2.2.1))).trans (hHeld.2.2.2.2.2.1)
    have HS6_ := (hb.cell (World.block_lt_of_cell? _ _ (hHeld.2.2.2.2.2.2.1))).trans (hHeld.2.2.2.2.2.2.1)
    have HS7_ := (hb.cell (World.block_lt_of_cell? _ _ (hHeld.2.2.2.2.2.2.2.1))).trans (hHeld.2.2.2.2.2.2.2.1)
    have HS8_ := (hb.cell (World.block_lt_of_cell? _ _ (hHeld.2.2.2.2.2.2.2.2.1))).trans (hHeld.2.2.2.2.2.2.2.2.1)
    have HS9_ := (hb.cell (World.block_lt_of_cell? _ _ (hHeld.2.2.2.2.2.2.2.2.2.1))).trans (hHeld.2.2.2.2.2.2.2.2.2.1)
    have HS10_ := (hb.cell (World.block_lt_of_cell? _ _ (hHeld.2.2.2.2.2.2.2.2.2.2.1))).trans (hHeld.2.2.2.2.2.2.2.2.2.2.1)
    have HS11_ := (hb.cell (World.block_lt_of_cell? _ _ (hHeld.2.2.2.2.2.2.2.2.2.2.2))).trans (hHeld.2.2.2.2.2.2.2.2.2.2.2)
    refine ⟨_, rfl, ?_⟩
    have n0_ := Aside0.mk (Kd.S_below (by (with_reducible repeat (first | apply Kd.S_alloc | apply Kd.S_drewN | apply Kd.S_drew)); exact HO593.out) hb)
    have n1_ := Aside0.mk (Kd.S_below (by (with_reducible repeat (first | apply Kd.S_alloc | apply Kd.S_drewN | apply Kd.S_drew)); exact HO597.out) hb)
    have n2_ := Aside0.mk (below_step (by repeat (first | (with_reducible first | exact HB.out | apply below_alloc | apply pw_below_drewN | apply below_drew1) | exact HB.out)) hb)
    clear HO593
    clear HO597
    clear HB
    have HO593 := n0_
    have HO597 := n1_
    have HB := n2_
    clear n0_ n1_ n2_
    (try clear hb)
    (try clear hb2)
    (try clear hk)
    (try clear hi)
    refine hK.out _ _ ⟨HS0_, HS1_, HS2_, HS3_, HS4_, HS5_, HS6_, HS7_, HS8_, HS9_, HS10_, HS11_⟩ (fun hHeld => ?_)
    clear hK K
    refine nm_ 43 ?_
    refine one_ (i := 7) (N := some 45) (bv 43 255) rfl rfl (one_of HT_.out (by kernel_rfl)) (by decide) (fun K hK => ?_)
    refine goes_ Try.func25 (by kernel_rfl) rfl #[.slice (some ad606) t586.length co8] (by rfl) rfl rfl (by (try simp only [List.map_toArray, List.map_cons, List.map_nil]); first | done | rfl | (simp only [List.length_drop, List.length_take]; rfl)) ?_
    with_reducible refine (impl_TotalWins.calls k _ _ t586 t600 _ ?side1 ?side2 A14.out).mono ?_
    (case side1 => repeat (first | exact (Kd.S_reads' HO593.out).2.2 | (with_reducible refine Kd.C_alloc ?_ _) | (with_reducible refine Kd.C_drewN ?_ _) | (with_reducible refine Kd.C_drew ?_)))
    (case side2 => exact (Kd.S_reads' HO593.out).2.1)
    rintro e w40 ⟨rfl, hb⟩
    have HS0_ := (hb.cell (World.block_lt_of_cell? _ _ (hHeld.1))).trans (hHeld.1)
    have HS1_ := (hb.cell (World.block_lt_of_cell? _ _ (hHeld.2.1))).trans (hHeld.2.1)
    have HS2_ := (hb.cell (World.block_lt_of_cell? _ _ (hHeld.2.2.1))).trans (hHeld.2.2.1)
    have HS3_ := (hb.cell (World.block_lt_of_cell? _ _ (hHeld.2.2.2.1))).trans (hHeld.2.2.2.1)
    have HS4_ := (hb.cell (World.block_lt_of_cell? _ _ (hHeld.2.2.2.2.1))).trans (hHeld.2.2.2.2.1)
    have HS5_ := (hb.cell (World.block_lt_of_cell? _ _ (hHeld.2.2.2.2.2.1))).trans (hHeld.2.2.2.2.2.1)
    have HS6_ := (hb.cell (World.block_lt_of_cell? _ _ (hHeld.2.2.2.2.2.2.1))).trans (hHeld.2.2.2.2.2.2.1)
    have HS7_ := (hb.cell (World.block_lt_of_cell? _ _ (hHeld.2.2.2.2.2.2.2.1))).trans (hHeld.2.2.2.2.2.2.2.1)
    have HS8_ := (hb.cell (World.block_lt_of_cell? _ _ (hHeld.2.2.2.2.2.2.2.2.1))).trans (hHeld.2.2.2.2.2.2.2.2.1)
    have HS9_ := (hb.cell (World.block_lt_of_cell? _ _ (hHeld.2.2.2.2.2.2.2.2.2.1))).trans (hHeld.2.2.2.2.2.2.2.2.2.1)
    have HS10_ := (hb.cell (World.block_lt_of_cell? _ _ (hHeld.2.2.2.2.2.2.2.2.2.2.1))).trans (hHeld.2.2.2.2.2.2.2.2.2.2.1)
    have HS11_ := (hb.cell (World.block_lt_of_cell? _ _ (hHeld.2.2.2.2.2.2.2.2.2.2.2))).trans (hHeld.2.2.2.2.2.2.2.2.2.2.2)
    refine ⟨_, rfl, ?_⟩
    have n0_ := Aside0.mk (Kd.S_below (by (with_reducible repeat (first | apply Kd.S_alloc | apply Kd.S_drewN | apply Kd.S_drew)); exact HO593.out) hb)
    have n1_ := Aside0.mk (Kd.S_below (by (with_reducible repeat (first | apply Kd.S_alloc | apply Kd.S_drewN | apply Kd.S_drew)); exact HO597.out) hb)
    have n2_ := Aside0.mk (below_step (by repeat (first | (with_reducible first | exact HB.out | apply below_alloc | apply pw_below_drewN | apply below_drew1) | exact HB.out)) hb)
    clear HO593
    clear HO597
    clear HB
    have HO593 := n0_
    have HO597 := n1_
    have HB := n2_
    clear n0_ n1_ n2_
    (try clear hb)
    (try clear hb2)
    (try clear hk)
    (try clear hi)
    refine hK.out _ _ ⟨HS0_, HS1_, HS2_, HS3_, HS4_, HS5_, HS6_, HS7_, HS8_, HS9_, HS10_, HS11_⟩ (fun hHeld => ?_)
    clear hK K
    refine nm_ 45 ?_
    refine pv_ 43 8 46 511 rfl rfl HT_ ?_; refine pv_ 43 9 47 1023 rfl rfl HT_ ?_; refine pv_ 43 10 48 2047 rfl rfl HT_ ?_; refine pv_ 43 11 49 4095 rfl rfl HT_ ?_; refine pv_ 43 12 50 8191 rfl rfl HT_ ?_; refine pv_ 43 13 51 16383 rfl rfl HT_ ?_; refine pv_ 43 14 52 32767 rfl rfl HT_ ?_
    refine one_ (i := 15) (N := some 53) (bv 43 65535) rfl rfl (one_of HT_.out (by kernel_rfl)) (by decide) (fun K hK => ?_)
    refine goes_ Try.func23 (by kernel_rfl) rfl #[.slice (some ad604) t594.length co37, .int .i64 t587, .int .i64 t588] (by rfl) rfl rfl (by (try simp only [List.map_toArray, List.map_cons, List.map_nil]); first | done | rfl | (simp only [List.length_drop, List.length_take]; rfl)) ?_
    with_reducible refine (impl_HaveMet.calls k _ _ t594 t587 t588 true _ ?side1 ?side2 A16.out).mono ?_
    (case side1 => repeat (first | exact (Kd.S_reads' HO597.out).2.2 | (with_reducible refine Kd.C_alloc ?_ _) | (with_reducible refine Kd.C_drewN ?_ _) | (with_reducible refine Kd.C_drew ?_)))
    (case side2 => exact (Kd.S_reads' HO597.out).2.1)
    rintro e w41 ⟨rfl, hb⟩
    have HS0_ := (hb.cell (World.block_lt_of_cell? _ _ (hHeld.1))).trans (hHeld.1)
    have HS1_ := (hb.cell (World.block_lt_of_cell? _ _ (hHeld.2.1))).trans (hHeld.2.1)
    have HS2_ := (hb.cell (World.block_lt_of_cell? _ _ (hHeld.2.2.1))).trans (hHeld.2.2.1)
    have HS3_ := (hb.cell (World.block_lt_of_cell? _ _ (hHeld.2.2.2.1))).trans (hHeld.2.2.2.1)
    have HS4_ := (hb.cell (World.block_lt_of_cell? _ _ (hHeld.2.2.2.2.1))).trans (hHeld.2.2.2.2.1)
    have HS5_ := (hb.cell (World.block_lt_of_cell? _ _ (hHeld.2.2.2.2.2.1))).trans (hHeld.2.2.2.2.2.1)
    have HS6_ := (hb.cell (World.block_lt_of_cell? _ _ (hHeld.2.2.2.2.2.2.1))).trans (hHeld.2.2.2.2.2.2.1)
    have HS7_ := (hb.cell (World.block_lt_of_cell? _ _ (hHeld.2.2.2.2.2.2.2.1))).trans (hHeld.2.2.2.2.2.2.2.1)
    have HS8_ := (hb.cell (World.block_lt_of_cell? _ _ (hHeld.2.2.2.2.2.2.2.2.1))).trans (hHeld.2.2.2.2.2.2.2.2.1)
    have HS9_ := (hb.cell (World.block_lt_of_cell? _ _ (hHeld.2.2.2.2.2.2.2.2.2.1))).trans (hHeld.2.2.2.2.2.2.2.2.2.1)
    have HS10_ := (hb.cell (World.block_lt_of_cell? _ _ (hHeld.2.2.2.2.2.2.2.2.2.2.1))).trans (hHeld.2.2.2.2.2.2.2.2.2.2.1)
    have HS11_ := (hb.cell (World.block_lt_of_cell? _ _ (hHeld.2.2.2.2.2.2.2.2.2.2.2))).trans (hHeld.2.2.2.2.2.2.2.2.2.2.2)
    refine ⟨_, rfl, ?_⟩
    have n0_ := Aside0.mk (Kd.S_below (by (with_reducible repeat (first | apply Kd.S_alloc | apply Kd.S_drewN | apply Kd.S_drew)); exact HO593.out) hb)
    have n1_ := Aside0.mk (Kd.S_below (by (with_reducible repeat (first | apply Kd.S_alloc | apply Kd.S_drewN | apply Kd.S_drew)); exact HO597.out) hb)
    have n2_ := Aside0.mk (below_step (by repeat (first | (with_reducible first | exact HB.out | apply below_alloc | apply pw_below_drewN | apply below_drew1) | exact HB.out)) hb)
    clear HO593
    clear HO597
    clear HB
    have HO593 := n0_
    have HO597 := n1_
    have HB := n2_
    clear n0_ n1_ n2_
    (try clear hb)
    (try clear hb2)
    (try clear hk)
    (try clear hi)
    refine hK.out _ _ ⟨HS0_, HS1_, HS2_, HS3_, HS4_, HS5_, HS6_, HS7_, HS8_, HS9_, HS10_, HS11_⟩ (fun hHeld => ?_)
    clear hK K
    refine nm_ 53 ?_
    refine pv_ 43 16 54 131071 rfl rfl HT_ ?_; refine pv_ 43 17 55 262143 rfl rfl HT_ ?_; refine pv_ 43 18 56 524287 rfl rfl HT_ ?_; refine pv_ 43 19 57 1048575 rfl rfl HT_ ?_; refine pv_ 43 20 58 2097151 rfl rfl HT_ ?_; refine pv_ 43 21 59 4194303 rfl rfl HT_ ?_
    refine one_ (i := 22) (N := some 60) (bv 43 8388607) rfl rfl (one_of HT_.out (by kernel_rfl)) (by decide) (fun K hK => ?_)
    refine goes_ Try.func23 (by kernel_rfl) rfl #[.slice (some ad604) t594.length co37, .int .i64 t588, .int .i64 t587] (by rfl) rfl rfl (by (try simp only [List.map_toArray, List.map_cons, List.map_nil]); first | done | rfl | (simp only [List.length_drop, List.length_take]; rfl)) ?_
    with_reducible refine (impl_HaveMet.calls k _ _ t594 t588 t587 true _ ?side1 ?side2 A18.out).mono ?_
    (case side1 => repeat (first | exact (Kd.S_reads' HO597.out).2.2 | (with_reducible refine Kd.C_alloc ?_ _) | (with_reducible refine Kd.C_drewN ?_ _) | (with_reducible refine Kd.C_drew ?_)))
    (case side2 => exact (Kd.S_reads' HO597.out).2.1)
    rintro e w42 ⟨rfl, hb⟩
    have HS0_ := (hb.cell (World.block_lt_of_cell? _ _ (hHeld.1))).trans (hHeld.1)
    have HS1_ := (hb.cell (World.block_lt_of_cell? _ _ (hHeld.2.1))).trans (hHeld.2.1)
    have HS2_ := (hb.cell (World.block_lt_of_cell? _ _ (hHeld.2.2.1))).trans (hHeld.2.2.1)
    have HS3_ := (hb.cell (World.block_lt_of_cell? _ _ (hHeld.2.2.2.1))).trans (hHeld.2.2.2.1)
    have HS4_ := (hb.cell (World.block_lt_of_cell? _ _ (hHeld.2.2.2.2.1))).trans (hHeld.2.2.2.2.1)
    have HS5_ := (hb.cell (World.block_lt_of_cell? _ _ (hHeld.2.2.2.2.2.1))).trans (hHeld.2.2.2.2.2.1)
    have HS6_ := (hb.cell (World.block_lt_of_cell? _ _ (hHeld.2.2.2.2.2.2.1))).trans (hHeld.2.2.2.2.2.2.1)
    have HS7_ := (hb.cell (World.block_lt_of_cell? _ _ (hHeld.2.2.2.2.2.2.2.1))).trans (hHeld.2.2.2.2.2.2.2.1)
    have HS8_ := (hb.cell (World.block_lt_of_cell? _ _ (hHeld.2.2.2.2.2.2.2.2.1))).trans (hHeld.2.2.2.2.2.2.2.2.1)
    have HS9_ := (hb.cell (World.block_lt_of_cell? _ _ (hHeld.2.2.2.2.2.2.2.2.2.1))).trans (hHeld.2.2.2.2.2.2.2.2.2.1)
    have HS10_ := (hb.cell (World.block_lt_of_cell? _ _ (hHeld.2.2.2.2.2.2.2.2.2.2.1))).trans (hHeld.2.2.2.2.2.2.2.2.2.2.1)
    have HS11_ := (hb.cell (World.block_lt_of_cell? _ _ (hHeld.2.2.2.2.2.2.2.2.2.2.2))).trans (hHeld.2.2.2.2.2.2.2.2.2.2.2)
    refine ⟨_, rfl, ?_⟩
    have n0_ := Aside0.mk (Kd.S_below (by (with_reducible repeat (first | apply Kd.S_alloc | apply Kd.S_drewN | apply Kd.S_drew)); exact HO593.out) hb)
    have n1_ := Aside0.mk (Kd.S_below (by (with_reducible repeat (first | apply Kd.S_alloc | apply Kd.S_drewN | apply Kd.S_drew)); exact HO597.out) hb)
    have n2_ := Aside0.mk (below_step (by repeat (first | (with_reducible first | exact HB.out | apply below_alloc | apply pw_below_drewN | apply below_drew1) | exact HB.out)) hb)
    clear HO593
    clear HO597
    clear HB
    have HO593 := n0_
    have HO597 := n1_
    have HB := n2_
    clear n0_ n1_ n2_
    (try clear hb)
    (try clear hb2)
    (try clear hk)
    (try clear hi)
    refine hK.out _ _ ⟨HS0_, HS1_, HS2_, HS3_, HS4_, HS5_, HS6_, HS7_, HS8_, HS9_, HS10_, HS11_⟩ (fun hHeld => ?_)
    clear hK K
    refine nm_ 60 ?_
    refine pv_ 43 23 61 16777215 rfl rfl HT_ ?_; refine pv_ 43 24 62 33554431 rfl rfl HT_ ?_; refine pv_ 43 25 63 67108863 rfl rfl HT_ ?_; refine pv_ 43 26 64 134217727 rfl rfl HT_ ?_; refine pv_ 43 27 65 268435455 rfl rfl HT_ ?_; refine pv_ 43 28 66 536870911 rfl rfl HT_ ?_; refine pv_ 43 33 71 9126805503 rfl rfl HT_ ?_; refine pv_ 43 34 72 26306674687 rfl rfl HT_ ?_; refine pv_ 43 35 73 60666413055 rfl rfl HT_ ?_
    refine one_ (i := 29) (N := some 67) (bv 43 61203283967) rfl rfl (one_of HT_.out (by kernel_rfl)) (by decide) (fun K hK => ?_)
    refine goes_ Try.func18 (by kernel_rfl) rfl #[.slice (some ad604) t594.length co37, .int .i64 t587] (by rfl) rfl rfl (by (try simp only [List.map_toArray, List.map_cons, List.map_nil]); first | done | rfl | (simp only [List.length_drop, List.length_take]; rfl)) ?_
    with_reducible refine (impl_FindTeam.calls _ _ t594 t587 t603 _ ?side1 ?side2 A20.out).mono ?_
    (case side1 => repeat (first | exact (Kd.S_reads' HO597.out).2.2 | (with_reducible refine Kd.C_alloc ?_ _) | (with_reducible refine Kd.C_drewN ?_ _) | (with_reducible refine Kd.C_drew ?_)))
    (case side2 => exact (Kd.S_reads' HO597.out).2.1)
    rintro e w43 ⟨rfl, hb⟩
    have HS0_ := (hb.cell (World.block_lt_of_cell? _ _ (hHeld.1))).trans (hHeld.1)
    have HS1_ := (hb.cell (World.block_lt_of_cell? _ _ (hHeld.2.1))).trans (hHeld.2.1)
    have HS2_ := (hb.cell (World.block_lt_of_cell? _ _ (hHeld.2.2.1))).trans (hHeld.2.2.1)
    have HS3_ := (hb.cell (World.block_lt_of_cell? _ _ (hHeld.2.2.2.1))).trans (hHeld.2.2.2.1)
    have HS4_ := (hb.cell (World.block_lt_of_cell? _ _ (hHeld.2.2.2.2.1))).trans (hHeld.2.2.2.2.1)
    have HS5_ := (hb.cell (World.block_lt_of_cell? _ _ (hHeld.2.2.2.2.2.1))).trans (hHeld.2.2.2.2.2.1)
    have HS6_ := (hb.cell (World.block_lt_of_cell? _ _ (hHeld.2.2.2.2.2.2.1))).trans (hHeld.2.2.2.2.2.2.1)
    have HS7_ := (hb.cell (World.block_lt_of_cell? _ _ (hHeld.2.2.2.2.2.2.2.1))).trans (hHeld.2.2.2.2.2.2.2.1)
    have HS8_ := (hb.cell (World.block_lt_of_cell? _ _ (hHeld.2.2.2.2.2.2.2.2.1))).trans (hHeld.2.2.2.2.2.2.2.2.1)
    have HS9_ := (hb.cell (World.block_lt_of_cell? _ _ (hHeld.2.2.2.2.2.2.2.2.2.1))).trans (hHeld.2.2.2.2.2.2.2.2.2.1)
    have HS10_ := (hb.cell (World.block_lt_of_cell? _ _ (hHeld.2.2.2.2.2.2.2.2.2.2.1))).trans (hHeld.2.2.2.2.2.2.2.2.2.2.1)
    have HS11_ := (hb.cell (World.block_lt_of_cell? _ _ (hHeld.2.2.2.2.2.2.2.2.2.2.2))).trans (hHeld.2.2.2.2.2.2.2.2.2.2.2)
    refine ⟨_, rfl, ?_⟩
    have n0_ := Aside0.mk (Kd.S_below (by (with_reducible repeat (first | apply Kd.S_alloc | apply Kd.S_drewN | apply Kd.S_drew)); exact HO593.out) hb)
    have n1_ := Aside0.mk (Kd.S_below (by (with_reducible repeat (first | apply Kd.S_alloc | apply Kd.S_drewN | apply Kd.S_drew)); exact HO597.out) hb)
    have n2_ := Aside0.mk (below_step (by repeat (first | (with_reducible first | exact HB.out | apply below_alloc | apply pw_below_drewN | apply below_drew1) | exact HB.out)) hb)
    clear HO593
    clear HO597
    clear HB
    have HO593 := n0_
    have HO597 := n1_
    have HB := n2_
    clear n0_ n1_ n2_
    (try clear hb)
    (try clear hb2)
    (try clear hk)
    (try clear hi)
    refine hK.out _ _ ⟨HS0_, HS1_, HS2_, HS3_, HS4_, HS5_, HS6_, HS7_, HS8_, HS9_, HS10_, HS11_⟩ (fun hHeld => ?_)
    clear hK K
    refine nm_ 67 ?_
    refine pv_ 43 30 68 62277025791 rfl rfl HT_ ?_; refine pv_ 43 31 69 64424509439 rfl rfl HT_ ?_
    refine tv_ 43 32 70 68719476735 rfl rfl HT_ HW_ hHeld (by rintro w' ⟨s0, s1, s2, s3, s4, s5, s6, s7, s8, s9, s10, s11⟩; go_simp; with_reducible rfl) ?_
    refine one_ (i := 36) (N := some 74) (bv 43 137438953471) rfl rfl (one_of HT_.out (by kernel_rfl)) (by decide) (fun K hK => ?_)
    refine goes_ Try.func18 (by kernel_rfl) rfl #[.slice (some ad606) t586.length co8, .int .i64 t587] (by rfl) rfl rfl (by (try simp only [List.map_toArray, List.map_cons, List.map_nil]); first | done | rfl | (simp only [List.length_drop, List.length_take]; rfl)) ?_
    with_reducible refine (impl_FindTeam.calls _ _ t586 t587 t605 _ ?side1 ?side2 A23.out).mono ?_
    (case side1 => repeat (first | exact (Kd.S_reads' HO593.out).2.2 | (with_reducible refine Kd.C_alloc ?_ _) | (with_reducible refine Kd.C_drewN ?_ _) | (with_reducible refine Kd.C_drew ?_)))
    (case side2 => exact (Kd.S_reads' HO593.out).2.1)
    rintro e w44 ⟨rfl, hb⟩
    have HS0_ := (hb.cell (World.block_lt_of_cell? _ _ (hHeld.1))).trans (hHeld.1)
    have HS1_ := (hb.cell (World.block_lt_of_cell? _ _ (hHeld.2.1))).trans (hHeld.2.1)
    have HS2_ := (hb.cell (World.block_lt_of_cell? _ _ (hHeld.2.2.1))).trans (hHeld.2.2.1)
    have HS3_ := (hb.cell (World.block_lt_of_cell? _ _ (hHeld.2.2.2.1))).trans (hHeld.2.2.2.1)
    have HS4_ := (hb.cell (World.block_lt_of_cell? _ _ (hHeld.2.2.2.2.1))).trans (hHeld.2.2.2.2.1)
    have HS5_ := (hb.cell (World.block_lt_of_cell? _ _ (hHeld.2.2.2.2.2.1))).trans (hHeld.2.2.2.2.2.1)
    have HS6_ := (hb.cell (World.block_lt_of_cell? _ _ (hHeld.2.2.2.2.2.2.1))).trans (hHeld.2.2.2.2.2.2.1)
    have HS7_ := (hb.cell (World.block_lt_of_cell? _ _ (hHeld.2.2.2.2.2.2.2.1))).trans (hHeld.2.2.2.2.2.2.2.1)
    have HS8_ := (hb.cell (World.block_lt_of_cell? _ _ (hHeld.2.2.2.2.2.2.2.2.1))).trans (hHeld.2.2.2.2.2.2.2.2.1)
    have HS9_ := (hb.cell (World.block_lt_of_cell? _ _ (hHeld.2.2.2.2.2.2.2.2.2.1))).trans (hHeld.2.2.2.2.2.2.2.2.2.1)
    have HS10_ := (hb.cell (World.block_lt_of_cell? _ _ (hHeld.2.2.2.2.2.2.2.2.2.2.1))).trans (hHeld.2.2.2.2.2.2.2.2.2.2.1)
    have HS11_ := (hb.cell (World.block_lt_of_cell? _ _ (hHeld.2.2.2.2.2.2.2.2.2.2.2))).trans (hHeld.2.2.2.2.2.2.2.2.2.2.2)
    refine ⟨_, rfl, ?_⟩
    have n0_ := Aside0.mk (Kd.S_below (by (with_reducible repeat (first | apply Kd.S_alloc | apply Kd.S_drewN | apply Kd.S_drew)); exact HO593.out) hb)
    have n1_ := Aside0.mk (Kd.S_below (by (with_reducible repeat (first | apply Kd.S_alloc | apply Kd.S_drewN | apply Kd.S_drew)); exact HO597.out) hb)
    have n2_ := trivial
    have n3_ := trivial
    have n4_ := Aside0.mk (below_step (by repeat (first | (with_reducible first | exact HB.out | apply below_alloc | apply pw_below_drewN | apply below_drew1) | exact HB.out)) hb)
    clear HO593
    clear HO597
    clear HL604_5
    clear HR604_5
    clear HB
    have HO593 := n0_
    have HO597 := n1_
    have HL604_5 := n2_
    have HR604_5 := n3_
    have HB := n4_
    clear n0_ n1_ n2_ n3_ n4_
    (try clear hb)
    (try clear hb2)
    (try clear hk)
    (try clear hi)
    refine hK.out _ _ ⟨HS0_, HS1_, HS2_, HS3_, HS4_, HS5_, HS6_, HS7_, HS8_, HS9_, HS10_, HS11_⟩ (fun hHeld => ?_)
    clear hK K
    refine nm_ 74 ?_
    refine pv_ 43 37 75 274877906943 rfl rfl HT_ ?_; refine pv_ 43 38 76 549755813887 rfl rfl HT_ ?_
    refine tv_ 43 39 77 1099511627775 rfl rfl HT_ HW_ hHeld (by rintro w' ⟨s0, s1, s2, s3, s4, s5, s6, s7, s8, s9, s10, s11⟩; go_simp; with_reducible rfl) ?_
    refine pv_ 43 40 78 2199023255551 rfl rfl HT_ ?_; refine pv_ 43 41 79 4398046511103 rfl rfl HT_ ?_; refine pv_ 43 42 80 8796093022207 rfl rfl HT_ ?_
    refine done_ (done_of HT_.out (by kernel_rfl)) ?_
    try go_wp2
    all_goals (go_ret; exact ⟨by first | rfl | (simp [errW_none, errW_some] <;> rfl) | (simp [*, errW_none, errW_some] <;> rfl), by repeat (first | (with_reducible first | exact HB.out | apply below_alloc | apply pw_below_drewN | apply below_drew1) | exact HB.out)⟩)
   rw [if_pos c26] at H
   have c26b0 : (((rd_T61 t594 t603).f4) == (wrap64 (((rd_T61 t586 t605).f4) + 1))) = true := beq_iff_eq.mpr c26
   have c26b1 : (((rd_T61 t594 t603).f4) != (wrap64 (((rd_T61 t586 t605).f4) + 1))) = false := bne_eq_false_iff_eq.mpr c26
   clear c26
   have H' := Aside0.mk H
   clear H
   try go_wp2
   have n0_ := Aside0.mk (Kd.S_drew HO593.out)
   have n1_ := Aside0.mk (Kd.S_drew HO597.out)
   have n2_ := Aside0.mk (below_drew1 HB.out)
   clear HO593
   clear HO597
   clear HB
   have HO593 := n0_
   have HO597 := n1_
   have HB := n2_
   clear n0_ n1_ n2_
   obtain ⟨Ao28, co28, eo28⟩ := Kd.S_slice HO597.out
   (first | subst eo28 | (injection eo28 with f1_ f2_ f3_; have f4_ := f1_.symm; have f5_ := f3_.symm; clear f1_ f2_ f3_; subst f4_; subst f5_))
   have p604 : 0 ≤ (t603 : Int) := of_decide_eq_true (by first | (with_reducible assumption) | assumption)
   have q604 : t603 < (t594.length : Int) := of_decide_eq_true (by first | (with_reducible assumption) | assumption)
   obtain ⟨ad604, A604_5, c604_5, e604, hx604_0, hx604_1, hx604_2, hx604_3, hx604_4, hx604_5, hl604_5, hi604_5⟩ := at_T61 (Kd.S_reads' HO597.out).2.2 t603 p604 q604
   cases e604
   obtain ⟨ce604, hce604, hMe604, hcc604⟩ := Kd.S_get HO597.out z61 t603 p604 (by first | exact q604 | exact of_decide_eq_true (by first | (with_reducible assumption) | assumption) | (have e_ := (Kd.S_reads' HO597.out).1; omega))
   obtain ⟨ve604_5, rfl, ge604_5⟩ := k61_openM hMe604
   have hv604_5 := hcc604 5 _ rfl
   rw [add_field _ _ 5 (by omega)] at hv604_5
   replace hv604_5 := Option.some.inj (hv604_5.symm.trans hx604_5)
   rw [hv604_5] at ge604_5
   have HL604_5 := Aside0.mk (show Kd.R (Kd.int .i64) 3 _ _ _ _ ((rd_T61 t594 t603).f5) from ge604_5)
   clear hv604_5 ge604_5
   clear hcc604 hce604
   have HR604_5 := Aside0.mk hi604_5
   have HC604_5 := Aside0.mk hl604_5
   clear hi604_5 hl604_5
   replace p604 := eq_true p604
   replace q604 := eq_true q604
   have p606 : 0 ≤ (t605 : Int) := of_decide_eq_true (by first | (with_reducible assumption) | assumption)
   have q606 : t605 < (t586.length : Int) := of_decide_eq_true (by first | (with_reducible assumption) | assumption)
   obtain ⟨ad606, A606_5, c606_5, e606, hx606_0, hx606_1, hx606_2, hx606_3, hx606_4, hx606_5, hl606_5, hi606_5⟩ := at_T61 (Kd.S_reads' HO593.out).2.2 t605 p606 q606
   cases e606
   obtain ⟨ce606, hce606, hMe606, hcc606⟩ := Kd.S_get HO593.out z61 t605 p606 (by first | exact q606 | exact of_decide_eq_true (by first | (with_reducible assumption) | assumption) | (have e_ := (Kd.S_reads' HO593.out).1; omega))
   obtain ⟨ve606_5, rfl, ge606_5⟩ := k61_openM hMe606
   have hv606_5 := hcc606 5 _ rfl
   rw [add_field _ _ 5 (by omega)] at hv606_5
   replace hv606_5 := Option.some.inj (hv606_5.symm.trans hx606_5)
   rw [hv606_5] at ge606_5
   have HL606_5 := Aside0.mk (show Kd.R (Kd.int .i64) 3 _ _ _ _ ((rd_T61 t586 t605).f5) from ge606_5)
   clear hv606_5 ge606_5
   clear hcc606 hce606
   have HR606_5 := Aside0.mk hi606_5
   have HC606_5 := Aside0.mk hl606_5
   clear hi606_5 hl606_5
   replace p606 := eq_true p606
   replace q606 := eq_true q606
   refine start_ (n := 43) (S := fun w' => w'.cell? (ad604.add ((t603).toNat * 6)) = some (.int .i64 ((rd_T61 t594 t603).f0)) ∧ w'.cell? ⟨(ad604.add ((t603).toNat * 6)).block, (ad604.add ((t603).toNat * 6)).off + 1, none⟩ = some (.int .i64 ((rd_T61 t594 t603).f1)) ∧ w'.cell? ⟨(ad604.add ((t603).toNat * 6)).block, (ad604.add ((t603).toNat * 6)).off + 2, none⟩ = some (.int .i64 ((rd_T61 t594 t603).f2)) ∧ w'.cell? ⟨(ad604.add ((t603).toNat * 6)).block, (ad604.add ((t603).toNat * 6)).off + 3, none⟩ = some (.int .i64 ((rd_T61 t594 t603).f3)) ∧ w'.cell? ⟨(ad604.add ((t603).toNat * 6)).block, (ad604.add ((t603).toNat * 6)).off + 4, none⟩ = some (.int .i64 ((rd_T61 t594 t603).f4)) ∧ w'.cell? ⟨(ad604.add ((t603).toNat * 6)).block, (ad604.add ((t603).toNat * 6)).off + 5, none⟩ = some (.slice A604_5 ((rd_T61 t594 t603).f5).length c604_5) ∧ w'.cell? (ad606.add ((t605).toNat * 6)) = some (.int .i64 ((rd_T61 t586 t605).f0)) ∧ w'.cell? ⟨(ad606.add ((t605).toNat * 6)).block, (ad606.add ((t605).toNat * 6)).off + 1, none⟩ = some (.int .i64 ((rd_T61 t586 t605).f1)) ∧ w'.cell? ⟨(ad606.add ((t605).toNat * 6)).block, (ad606.add ((t605).toNat * 6)).off + 2, none⟩ = some (.int .i64 ((rd_T61 t586 t605).f2)) ∧ w'.cell? ⟨(ad606.add ((t605).toNat * 6)).block, (ad606.add ((t605).toNat * 6)).off + 3, none⟩ = some (.int .i64 ((rd_T61 t586 t605).f3)) ∧ w'.cell? ⟨(ad606.add ((t605).toNat * 6)).block, (ad606.add ((t605).toNat * 6)).off + 4, none⟩ = some (.int .i64 ((rd_T61 t586 t605).f4)) ∧ w'.cell? ⟨(ad606.add ((t605).toNat * 6)).block, (ad606.add ((t605).toNat * 6)).off + 5, none⟩ = some (.slice A606_5 ((rd_T61 t586 t605).f5).length c606_5)) (ds := []) (bv 43 0) (by kernel_rfl) rfl rfl ⟨hx604_0, hx604_1, hx604_2, hx604_3, hx604_4, hx604_5, hx606_0, hx606_1, hx606_2, hx606_3, hx606_4, hx606_5⟩ (fun hHeld => ?_); refine with_tabW laws_FnTeams.tab6 laws_FnTeams.bits6 (fun HT_ HW_ => ?_)
   generalize w9.drew = w27 at HO593 HO597 HB HL604_5 HL606_5 HR604_5 HR606_5 hx604_0 hx604_1 hx604_2 hx604_3 hx604_4 hx604_5 hx606_0 hx606_1 hx606_2 hx606_3 hx606_4 hx606_5 hHeld ⊢
   refine pv_ 43 0 38 1 rfl rfl HT_ ?_
   refine one_ (i := 1) (N := some 39) (bv 43 3) rfl rfl (one_of HT_.out (by kernel_rfl)) (by decide) (fun K hK => ?_)
   refine goes_ Try.func21 (by kernel_rfl) rfl #[.slice (some ad604) t594.length co28] (by rfl) rfl rfl (by (try simp only [List.map_toArray, List.map_cons, List.map_nil]); first | done | rfl | (simp only [List.length_drop, List.length_take]; rfl)) ?_
   with_reducible refine (impl_AreTeams.calls k _ _ t594 true _ ?side1 ?side2 A11.out).mono ?_
   (case side1 => repeat (first | exact (Kd.S_reads' HO597.out).2.2 | (with_reducible refine Kd.C_alloc ?_ _) | (with_reducible refine Kd.C_drewN ?_ _) | (with_reducible refine Kd.C_drew ?_)))
   (case side2 => exact (Kd.S_reads' HO597.out).2.1)
   rintro e w29 ⟨rfl, hb⟩
   have HS0_ := (hb.cell (World.block_lt_of_cell? _ _ (hHeld.1))).trans (hHeld.1)
   have HS1_ := (hb.cell (World.block_lt_of_cell? _ _ (hHeld.2.1))).trans (hHeld.2.1)
   have HS2_ := (hb.cell (World.block_lt_of_cell? _ _ (hHeld.2.2.1))).trans (hHeld.2.2.1)
   have HS3_ := (hb.cell (World.block_lt_of_cell? _ _ (hHeld.2.2.2.1))).trans (hHeld.2.2.2.1)
   have HS4_ := (hb.cell (World.block_lt_of_cell? _ _ (hHeld.2.2.2.2.1))).trans (hHeld.2.2.2.2.1)
   have HS5_ := (hb.cell (World.block_lt_of_cell? _ _ (hHeld.2.2.2.2.2.1))).trans (hHeld.2.2.2.2.2.1)
   have HS6_ := (hb.cell (World.block_lt_of_cell? _ _ (hHeld.2.2.2.2.2.2.1))).trans (hHeld.2.2.2.2.2.2.1)
   have HS7_ := (hb.cell (World.block_lt_of_cell? _ _ (hHeld.2.2.2.2.2.2.2.1))).trans (hHeld.2.2.2.2.2.2.2.1)
   have HS8_ := (hb.cell (World.block_lt_of_cell? _ _ (hHeld.2.2.2.2.2.2.2.2.1))).trans (hHeld.2.2.2.2.2.2.2.2.1)
   have HS9_ := (hb.cell (World.block_lt_of_cell? _ _ (hHeld.2.2.2.2.2.2.2.2.2.1))).trans (hHeld.2.2.2.2.2.2.2.2.2.1)
   have HS10_ := (hb.cell (World.block_lt_of_cell? _ _ (hHeld.2.2.2.2.2.2.2.2.2.2.1))).trans (hHeld.2.2.2.2.2.2.2.2.2.2.1)
   have HS11_ := (hb.cell (World.block_lt_of_cell? _ _ (hHeld.2.2.2.2.2.2.2.2.2.2.2))).trans (hHeld.2.2.2.2.2.2.2.2.2.2.2)
   refine ⟨_, rfl, ?_⟩
   have n0_ := Aside0.mk (Kd.S_below (by (with_reducible repeat (first | apply Kd.S_alloc | apply Kd.S_drewN | apply Kd.S_drew)); exact HO593.out) hb)
   have n1_ := Aside0.mk (Kd.S_below (by (with_reducible repeat (first | apply Kd.S_alloc | apply Kd.S_drewN | apply Kd.S_drew)); exact HO597.out) hb)
   have n2_ := Aside0.mk (below_step (by repeat (first | (with_reducible first | exact HB.out | apply below_alloc | apply pw_below_drewN | apply below_drew1) | exact HB.out)) hb)
   clear HO593
   clear HO597
   clear HB
   have HO593 := n0_
   have HO597 := n1_
   have HB := n2_
   clear n0_ n1_ n2_
   (try clear hb)
   (try clear hb2)
   (try clear hk)
   (try clear hi)
   refine hK.out _ _ ⟨HS0_, HS1_, HS2_, HS3_, HS4_, HS5_, HS6_, HS7_, HS8_, HS9_, HS10_, HS11_⟩ (fun hHeld => ?_)
   clear hK K
   refine nm_ 39 ?_
   refine pv_ 43 2 40 7 rfl rfl HT_ ?_; refine pv_ 43 3 41 15 rfl rfl HT_ ?_; refine pv_ 43 4 42 31 rfl rfl HT_ ?_; refine pv_ 43 6 44 95 rfl rfl HT_ ?_
   refine one_ (i := 5) (N := some 43) (bv 43 127) rfl rfl (one_of HT_.out (by kernel_rfl)) (by decide) (fun K hK => ?_)
   refine goes_ Try.func25 (by kernel_rfl) rfl #[.slice (some ad604) t594.length co28] (by rfl) rfl rfl (by (try simp only [List.map_toArray, List.map_cons, List.map_nil]); first | done | rfl | (simp only [List.length_drop, List.length_take]; rfl)) ?_
   with_reducible refine (impl_TotalWins.calls k _ _ t594 t599 _ ?side1 ?side2 A13.out).mono ?_
   (case side1 => repeat (first | exact (Kd.S_reads' HO597.out).2.2 | (with_reducible refine Kd.C_alloc ?_ _) | (with_reducible refine Kd.C_drewN ?_ _) | (with_reducible refine Kd.C_drew ?_)))
   (case side2 => exact (Kd.S_reads' HO597.out).2.1)
   rintro e w30 ⟨rfl, hb⟩
   have HS0_ := (hb.cell (World.block_lt_of_cell? _ _ (hHeld.1))).trans (hHeld.1)
   have HS1_ := (hb.cell (World.block_lt_of_cell? _ _ (hHeld.2.1))).trans (hHeld.2.1)
   have HS2_ := (hb.cell (World.block_lt_of_cell? _ _ (hHeld.2.2.1))).trans (hHeld.2.2.1)
   have HS3_ := (hb.cell (World.block_lt_of_cell? _ _ (hHeld.2.2.2.1))).trans (hHeld.2.2.2.1)
   have HS4_ := (hb.cell (World.block_lt_of_cell? _ _ (hHeld.2.2.2.2.1))).trans (hHeld.2.2.2.2.1)
   have HS5_ := (hb.cell (World.block_lt_of_cell? _ _ (hHeld.2.2.2.2.2.1))).trans (hHeld.2.2.2.2.2.1)
   have HS6_ := (hb.cell (World.block_lt_of_cell? _ _ (hHeld.2.2.2.2.2.2.1))).trans (hHeld.2.2.2.2.2.2.1)
   have HS7_ := (hb.cell (World.block_lt_of_cell? _ _ (hHeld.2.2.2.2.2.2.2.1))).trans (hHeld.2.2.2.2.2.2.2.1)
   have HS8_ := (hb.cell (World.block_lt_of_cell? _ _ (hHeld.2.2.2.2.2.2.2.2.1))).trans (hHeld.2.2.2.2.2.2.2.2.1)
   have HS9_ := (hb.cell (World.block_lt_of_cell? _ _ (hHeld.2.2.2.2.2.2.2.2.2.1))).trans (hHeld.2.2.2.2.2.2.2.2.2.1)
   have HS10_ := (hb.cell (World.block_lt_of_cell? _ _ (hHeld.2.2.2.2.2.2.2.2.2.2.1))).trans (hHeld.2.2.2.2.2.2.2.2.2.2.1)
   have HS11_ := (hb.cell (World.block_lt_of_cell? _ _ (hHeld.2.2.2.2.2.2.2.2.2.2.2))).trans (hHeld.2.2.2.2.2.2.2.2.2.2.2)
   refine ⟨_, rfl, ?_⟩
   have n0_ := Aside0.mk (Kd.S_below (by (with_reducible repeat (first | apply Kd.S_alloc | apply Kd.S_drewN | apply Kd.S_drew)); exact HO593.out) hb)
   have n1_ := Aside0.mk (Kd.S_below (by (with_reducible repeat (first | apply Kd.S_alloc | apply Kd.S_drewN | apply Kd.S_drew)); exact HO597.out) hb)
   have n2_ := Aside0.mk (below_step (by repeat (first | (with_reducible first | exact HB.out | apply below_alloc | apply pw_below_drewN | apply below_drew1) | exact HB.out)) hb)
   clear HO593
   clear HO597
   clear HB
   have HO593 := n0_
   have HO597 := n1_
   have HB := n2_
   clear n0_ n1_ n2_
   (try clear hb)
   (try clear hb2)
   (try clear hk)
   (try clear hi)
   refine hK.out _ _ ⟨HS0_, HS1_, HS2_, HS3_, HS4_, HS5_, HS6_, HS7_, HS8_, HS9_, HS10_, HS11_⟩ (fun hHeld => ?_)
   clear hK K
   refine nm_ 43 ?_
   refine one_ (i := 7) (N := some 45) (bv 43 255) rfl rfl (one_of HT_.out (by kernel_rfl)) (by decide) (fun K hK => ?_)
   refine goes_ Try.func25 (by kernel_rfl) rfl #[.slice (some ad606) t586.length co8] (by rfl) rfl rfl (by (try simp only [List.map_toArray, List.map_cons, List.map_nil]); first | done | rfl | (simp only [List.length_drop, List.length_take]; rfl)) ?_
   with_reducible refine (impl_TotalWins.calls k _ _ t586 t600 _ ?side1 ?side2 A14.out).mono ?_
   (case side1 => repeat (first | exact (Kd.S_reads' HO593.out).2.2 | (with_reducible refine Kd.C_alloc ?_ _) | (with_reducible refine Kd.C_drewN ?_ _) | (with_reducible refine Kd.C_drew ?_)))
   (case side2 => exact (Kd.S_reads' HO593.out).2.1)
   rintro e w31 ⟨rfl, hb⟩
   have HS0_ := (hb.cell (World.block_lt_of_cell? _ _ (hHeld.1))).trans (hHeld.1)
   have HS1_ := (hb.cell (World.block_lt_of_cell? _ _ (hHeld.2.1))).trans (hHeld.2.1)
   have HS2_ := (hb.cell (World.block_lt_of_cell? _ _ (hHeld.2.2.1))).trans (hHeld.2.2.1)
   have HS3_ := (hb.cell (World.block_lt_of_cell? _ _ (hHeld.2.2.2.1))).trans (hHeld.2.2.2.1)
   have HS4_ := (hb.cell (World.block_lt_of_cell? _ _ (hHeld.2.2.2.2.1))).trans (hHeld.2.2.2.2.1)
   have HS5_ := (hb.cell (World.block_lt_of_cell? _ _ (hHeld.2.2.2.2.2.1))).trans (hHeld.2.2.2.2.2.1)
   have HS6_ := (hb.cell (World.block_lt_of_cell? _ _ (hHeld.2.2.2.2.2.2.1))).trans (hHeld.2.2.2.2.2.2.1)
   have HS7_ := (hb.cell (World.block_lt_of_cell? _ _ (hHeld.2.2.2.2.2.2.2.1))).trans (hHeld.2.2.2.2.2.2.2.1)
   have HS8_ := (hb.cell (World.block_lt_of_cell? _ _ (hHeld.2.2.2.2.2.2.2.2.1))).trans (hHeld.2.2.2.2.2.2.2.2.1)
   have HS9_ := (hb.cell (World.block_lt_of_cell? _ _ (hHeld.2.2.2.2.2.2.2.2.2.1))).trans (hHeld.2.2.2.2.2.2.2.2.2.1)
   have HS10_ := (hb.cell (World.block_lt_of_cell? _ _ (hHeld.2.2.2.2.2.2.2.2.2.2.1))).trans (hHeld.2.2.2.2.2.2.2.2.2.2.1)
   have HS11_ := (hb.cell (World.block_lt_of_cell? _ _ (hHeld.2.2.2.2.2.2.2.2.2.2.2))).trans (hHeld.2.2.2.2.2.2.2.2.2.2.2)
   refine ⟨_, rfl, ?_⟩
   have n0_ := Aside0.mk (Kd.S_below (by (with_reducible repeat (first | apply Kd.S_alloc | apply Kd.S_drewN | apply Kd.S_drew)); exact HO593.out) hb)
   have n1_ := Aside0.mk (Kd.S_below (by (with_reducible repeat (first | apply Kd.S_alloc | apply Kd.S_drewN | apply Kd.S_drew)); exact HO597.out) hb)
   have n2_ := Aside0.mk (below_step (by repeat (first | (with_reducible first | exact HB.out | apply below_alloc | apply pw_below_drewN | apply below_drew1) | exact HB.out)) hb)
   clear HO593
   clear HO597
   clear HB
   have HO593 := n0_
   have HO597 := n1_
   have HB := n2_
   clear n0_ n1_ n2_
   (try clear hb)
   (try clear hb2)
   (try clear hk)
   (try clear hi)
   refine hK.out _ _ ⟨HS0_, HS1_, HS2_, HS3_, HS4_, HS5_, HS6_, HS7_, HS8_, HS9_, HS10_, HS11_⟩ (fun hHeld => ?_)
   clear hK K
   refine nm_ 45 ?_
   refine pv_ 43 8 46 511 rfl rfl HT_ ?_; refine pv_ 43 9 47 1023 rfl rfl HT_ ?_; refine pv_ 43 10 48 2047 rfl rfl HT_ ?_; refine pv_ 43 11 49 4095 rfl rfl HT_ ?_; refine pv_ 43 12 50 8191 rfl rfl HT_ ?_; refine pv_ 43 13 51 16383 rfl rfl HT_ ?_; refine pv_ 43 14 52 32767 rfl rfl HT_ ?_
   refine one_ (i := 15) (N := some 53) (bv 43 65535) rfl rfl (one_of HT_.out (by kernel_rfl)) (by decide) (fun K hK => ?_)
   refine goes_ Try.func23 (by kernel_rfl) rfl #[.slice (some ad604) t594.length co28, .int .i64 t587, .int .i64 t588] (by rfl) rfl rfl (by (try simp only [List.map_toArray, List.map_cons, List.map_nil]); first | done | rfl | (simp only [List.length_drop, List.length_take]; rfl)) ?_
   with_reducible refine (impl_HaveMet.calls k _ _ t594 t587 t588 true _ ?side1 ?side2 A16.out).mono ?_
   (case side1 => repeat (first | exact (Kd.S_reads' HO597.out).2.2 | (with_reducible refine Kd.C_alloc ?_ _) | (with_reducible refine Kd.C_drewN ?_ _) | (with_reducible refine Kd.C_drew ?_)))
   (case side2 => exact (Kd.S_reads' HO597.out).2.1)
   rintro e w32 ⟨rfl, hb⟩
   have HS0_ := (hb.cell (World.block_lt_of_cell? _ _ (hHeld.1))).trans (hHeld.1)
   have HS1_ := (hb.cell (World.block_lt_of_cell? _ _ (hHeld.2.1))).trans (hHeld.2.1)
   have HS2_ := (hb.cell (World.block_lt_of_cell? _ _ (hHeld.2.2.1))).trans (hHeld.2.2.1)
   have HS3_ := (hb.cell (World.block_lt_of_cell? _ _ (hHeld.2.2.2.1))).trans (hHeld.2.2.2.1)
   have HS4_ := (hb.cell (World.block_lt_of_cell? _ _ (hHeld.2.2.2.2.1))).trans (hHeld.2.2.2.2.1)
   have HS5_ := (hb.cell (World.block_lt_of_cell? _ _ (hHeld.2.2.2.2.2.1))).trans (hHeld.2.2.2.2.2.1)
   have HS6_ := (hb.cell (World.block_lt_of_cell? _ _ (hHeld.2.2.2.2.2.2.1))).trans (hHeld.2.2.2.2.2.2.1)
   have HS7_ := (hb.cell (World.block_lt_of_cell? _ _ (hHeld.2.2.2.2.2.2.2.1))).trans (hHeld.2.2.2.2.2.2.2.1)
   have HS8_ := (hb.cell (World.block_lt_of_cell? _ _ (hHeld.2.2.2.2.2.2.2.2.1))).trans (hHeld.2.2.2.2.2.2.2.2.1)
   have HS9_ := (hb.cell (World.block_lt_of_cell? _ _ (hHeld.2.2.2.2.2.2.2.2.2.1))).trans (hHeld.2.2.2.2.2.2.2.2.2.1)
   have HS10_ := (hb.cell (World.block_lt_of_cell? _ _ (hHeld.2.2.2.2.2.2.2.2.2.2.1))).trans (hHeld.2.2.2.2.2.2.2.2.2.2.1)
   have HS11_ := (hb.cell (World.block_lt_of_cell? _ _ (hHeld.2.2.2.2.2.2.2.2.2.2.2))).trans (hHeld.2.2.2.2.2.2.2.2.2.2.2)
   refine ⟨_, rfl, ?_⟩
   have n0_ := Aside0.mk (Kd.S_below (by (with_reducible repeat (first | apply Kd.S_alloc | apply Kd.S_drewN | apply Kd.S_drew)); exact HO593.out) hb)
   have n1_ := Aside0.mk (Kd.S_below (by (with_reducible repeat (first | apply Kd.S_alloc | apply Kd.S_drewN | apply Kd.S_drew)); exact HO597.out) hb)
   have n2_ := Aside0.mk (below_step (by repeat (first | (with_reducible first | exact HB.out | apply below_alloc | apply pw_below_drewN | apply below_drew1) | exact HB.out)) hb)
   clear HO593
   clear HO597
   clear HB
   have HO593 := n0_
   have HO597 := n1_
   have HB := n2_
   clear n0_ n1_ n2_
   (try clear hb)
   (try clear hb2)
   (try clear hk)
   (try clear hi)
   refine hK.out _ _ ⟨HS0_, HS1_, HS2_, HS3_, HS4_, HS5_, HS6_, HS7_, HS8_, HS9_, HS10_, HS11_⟩ (fun hHeld => ?_)
   clear hK K
   refine nm_ 53 ?_
   refine pv_ 43 16 54 131071 rfl rfl HT_ ?_; refine pv_ 43 17 55 262143 rfl rfl HT_ ?_; refine pv_ 43 18 56 524287 rfl rfl HT_ ?_; refine pv_ 43 19 57 1048575 rfl rfl HT_ ?_; refine pv_ 43 20 58 2097151 rfl rfl HT_ ?_; refine pv_ 43 21 59 4194303 rfl rfl HT_ ?_
   refine one_ (i := 22) (N := some 60) (bv 43 8388607) rfl rfl (one_of HT_.out (by kernel_rfl)) (by decide) (fun K hK => ?_)
   refine goes_ Try.func23 (by kernel_rfl) rfl #[.slice (some ad604) t594.length co28, .int .i64 t588, .int .i64 t587] (by rfl) rfl rfl (by (try simp only [List.map_toArray, List.map_cons, List.map_nil]); first | done | rfl | (simp only [List.length_drop, List.length_take]; rfl)) ?_
   with_reducible refine (impl_HaveMet.calls k _ _ t594 t588 t587 true _ ?side1 ?side2 A18.out).mono ?_
   (case side1 => repeat (first | exact (Kd.S_reads' HO597.out).2.2 | (with_reducible refine Kd.C_alloc ?_ _) | (with_reducible refine Kd.C_drewN ?_ _) | (with_reducible refine Kd.C_drew ?_)))
   (case side2 => exact (Kd.S_reads' HO597.out).2.1)
   rintro e w33 ⟨rfl, hb⟩
   have HS0_ := (hb.cell (World.block_lt_of_cell? _ _ (hHeld.1))).trans (hHeld.1)
   have HS1_ := (hb.cell (World.block_lt_of_cell? _ _ (hHeld.2.1))).trans (hHeld.2.1)
   have HS2_ := (hb.cell (World.block_lt_of_cell? _ _ (hHeld.2.2.1))).trans (hHeld.2.2.1)
   have HS3_ := (hb.cell (World.block_lt_of_cell? _ _ (hHeld.2.2.2.1))).trans (hHeld.2.2.2.1)
   have HS4_ := (hb.cell (World.block_lt_of_cell? _ _ (hHeld.2.2.2.2.1))).trans (hHeld.2.2.2.2.1)
   have HS5_ := (hb.cell (World.block_lt_of_cell? _ _ (hHeld.2.2.2.2.2.1))).trans (hHeld.2.2.2.2.2.1)
   have HS6_ := (hb.cell (World.block_lt_of_cell? _ _ (hHeld.2.2.2.2.2.2.1))).trans (hHeld.2.2.2.2.2.2.1)
   have HS7_ := (hb.cell (World.block_lt_of_cell? _ _ (hHeld.2.2.2.2.2.2.2.1))).trans (hHeld.2.2.2.2.2.2.2.1)
   have HS8_ := (hb.cell (World.block_lt_of_cell? _ _ (hHeld.2.2.2.2.2.2.2.2.1))).trans (hHeld.2.2.2.2.2.2.2.2.1)
   have HS9_ := (hb.cell (World.block_lt_of_cell? _ _ (hHeld.2.2.2.2.2.2.2.2.2.1))).trans (hHeld.2.2.2.2.2.2.2.2.2.1)
   have HS10_ := (hb.cell (World.block_lt_of_cell? _ _ (hHeld.2.2.2.2.2.2.2.2.2.2.1))).trans (hHeld.2.2.2.2.2.2.2.2.2.2.1)
   have HS11_ := (hb.cell (World.block_lt_of_cell? _ _ (hHeld.2.2.2.2.2.2.2.2.2.2.2))).trans (hHeld.2.2.2.2.2.2.2.2.2.2.2)
   refine ⟨_, rfl, ?_⟩
   have n0_ := Aside0.mk (Kd.S_below (by (with_reducible repeat (first | apply Kd.S_alloc | apply Kd.S_drewN | apply Kd.S_drew)); exact HO593.out) hb)
   have n1_ := Aside0.mk (Kd.S_below (by (with_reducible repeat (first | apply Kd.S_alloc | apply Kd.S_drewN | apply Kd.S_drew)); exact HO597.out) hb)
   have n2_ := Aside0.mk (below_step (by repeat (first | (with_reducible first | exact HB.out | apply below_alloc | apply pw_below_drewN | apply below_drew1) | exact HB.out)) hb)
   clear HO593
   clear HO597
   clear HB
   have HO593 := n0_
   have HO597 := n1_
   have HB := n2_
   clear n0_ n1_ n2_
   (try clear hb)
   (try clear hb2)
   (try clear hk)
   (try clear hi)
   refine hK.out _ _ ⟨HS0_, HS1_, HS2_, HS3_, HS4_, HS5_, HS6_, HS7_, HS8_, HS9_, HS10_, HS11_⟩ (fun hHeld => ?_)
   clear hK K
   refine nm_ 60 ?_
   refine pv_ 43 23 61 16777215 rfl rfl HT_ ?_; refine pv_ 43 24 62 33554431 rfl rfl HT_ ?_; refine pv_ 43 25 63 67108863 rfl rfl HT_ ?_; refine pv_ 43 26 64 134217727 rfl rfl HT_ ?_; refine pv_ 43 27 65 268435455 rfl rfl HT_ ?_; refine pv_ 43 28 66 536870911 rfl rfl HT_ ?_; refine pv_ 43 33 71 9126805503 rfl rfl HT_ ?_; refine pv_ 43 34 72 26306674687 rfl rfl HT_ ?_; refine pv_ 43 35 73 60666413055 rfl rfl HT_ ?_
   refine one_ (i := 29) (N := some 67) (bv 43 61203283967) rfl rfl (one_of HT_.out (by kernel_rfl)) (by decide) (fun K hK => ?_)
   refine goes_ Try.func18 (by kernel_rfl) rfl #[.slice (some ad604) t594.length co28, .int .i64 t587] (by rfl) rfl rfl (by (try simp only [List.map_toArray, List.map_cons, List.map_nil]); first | done | rfl | (simp only [List.length_drop, List.length_take]; rfl)) ?_
   with_reducible refine (impl_FindTeam.calls _ _ t594 t587 t603 _ ?side1 ?side2 A20.out).mono ?_
   (case side1 => repeat (first | exact (Kd.S_reads' HO597.out).2.2 | (with_reducible refine Kd.C_alloc ?_ _) | (with_reducible refine Kd.C_drewN ?_ _) | (with_reducible refine Kd.C_drew ?_)))
   (case side2 => exact (Kd.S_reads' HO597.out).2.1)
   rintro e w34 ⟨rfl, hb⟩
   have HS0_ := (hb.cell (World.block_lt_of_cell? _ _ (hHeld.1))).trans (hHeld.1)
   have HS1_ := (hb.cell (World.block_lt_of_cell? _ _ (hHeld.2.1))).trans (hHeld.2.1)
   have HS2_ := (hb.cell (World.block_lt_of_cell? _ _ (hHeld.2.2.1))).trans (hHeld.2.2.1)
   have HS3_ := (hb.cell (World.block_lt_of_cell? _ _ (hHeld.2.2.2.1))).trans (hHeld.2.2.2.1)
   have HS4_ := (hb.cell (World.block_lt_of_cell? _ _ (hHeld.2.2.2.2.1))).trans (hHeld.2.2.2.2.1)
   have HS5_ := (hb.cell (World.block_lt_of_cell? _ _ (hHeld.2.2.2.2.2.1))).trans (hHeld.2.2.2.2.2.1)
   have HS6_ := (hb.cell (World.block_lt_of_cell? _ _ (hHeld.2.2.2.2.2.2.1))).trans (hHeld.2.2.2.2.2.2.1)
   have HS7_ := (hb.cell (World.block_lt_of_cell? _ _ (hHeld.2.2.2.2.2.2.2.1))).trans (hHeld.2.2.2.2.2.2.2.1)
   have HS8_ := (hb.cell (World.block_lt_of_cell? _ _ (hHeld.2.2.2.2.2.2.2.2.1))).trans (hHeld.2.2.2.2.2.2.2.2.1)
   have HS9_ := (hb.cell (World.block_lt_of_cell? _ _ (hHeld.2.2.2.2.2.2.2.2.2.1))).trans (hHeld.2.2.2.2.2.2.2.2.2.1)
   have HS10_ := (hb.cell (World.block_lt_of_cell? _ _ (hHeld.2.2.2.2.2.2.2.2.2.2.1))).trans (hHeld.2.2.2.2.2.2.2.2.2.2.1)
   have HS11_ := (hb.cell (World.block_lt_of_cell? _ _ (hHeld.2.2.2.2.2.2.2.2.2.2.2))).trans (hHeld.2.2.2.2.2.2.2.2.2.2.2)
   refine ⟨_, rfl, ?_⟩
   have n0_ := Aside0.mk (Kd.S_below (by (with_reducible repeat (first | apply Kd.S_alloc | apply Kd.S_drewN | apply Kd.S_drew)); exact HO593.out) hb)
   have n1_ := Aside0.mk (Kd.S_below (by (with_reducible repeat (first | apply Kd.S_alloc | apply Kd.S_drewN | apply Kd.S_drew)); exact HO597.out) hb)
   have n2_ := Aside0.mk (below_step (by repeat (first | (with_reducible first | exact HB.out | apply below_alloc | apply pw_below_drewN | apply below_drew1) | exact HB.out)) hb)
   clear HO593
   clear HO597
   clear HB
   have HO593 := n0_
   have HO597 := n1_
   have HB := n2_
   clear n0_ n1_ n2_
   (try clear hb)
   (try clear hb2)
   (try clear hk)
   (try clear hi)
   refine hK.out _ _ ⟨HS0_, HS1_, HS2_, HS3_, HS4_, HS5_, HS6_, HS7_, HS8_, HS9_, HS10_, HS11_⟩ (fun hHeld => ?_)
   clear hK K
   refine nm_ 67 ?_
   refine pv_ 43 30 68 62277025791 rfl rfl HT_ ?_; refine pv_ 43 31 69 64424509439 rfl rfl HT_ ?_
   refine tv_ 43 32 70 68719476735 rfl rfl HT_ HW_ hHeld (by rintro w' ⟨s0, s1, s2, s3, s4, s5, s6, s7, s8, s9, s10, s11⟩; go_simp; with_reducible rfl) ?_
   refine one_ (i := 36) (N := some 74) (bv 43 137438953471) rfl rfl (one_of HT_.out (by kernel_rfl)) (by decide) (fun K hK => ?_)
   refine goes_ Try.func18 (by kernel_rfl) rfl #[.slice (some ad606) t586.length co8, .int .i64 t587] (by rfl) rfl rfl (by (try simp only [List.map_toArray, List.map_cons, List.map_nil]); first | done | rfl | (simp only [List.length_drop, List.length_take]; rfl)) ?_
   with_reducible refine (impl_FindTeam.calls _ _ t586 t587 t605 _ ?side1 ?side2 A23.out).mono ?_
   (case side1 => repeat (first | exact (Kd.S_reads' HO593.out).2.2 | (with_reducible refine Kd.C_alloc ?_ _) | (with_reducible refine Kd.C_drewN ?_ _) | (with_reducible refine Kd.C_drew ?_)))
   (case side2 => exact (Kd.S_reads' HO593.out).2.1)
   rintro e w35 ⟨rfl, hb⟩
   have HS0_ := (hb.cell (World.block_lt_of_cell? _ _ (hHeld.1))).trans (hHeld.1)
   have HS1_ := (hb.cell (World.block_lt_of_cell? _ _ (hHeld.2.1))).trans (hHeld.2.1)
   have HS2_ := (hb.cell (World.block_lt_of_cell? _ _ (hHeld.2.2.1))).trans (hHeld.2.2.1)
   have HS3_ := (hb.cell (World.block_lt_of_cell? _ _ (hHeld.2.2.2.1))).trans (hHeld.2.2.2.1)
   have HS4_ := (hb.cell (World.block_lt_of_cell? _ _ (hHeld.2.2.2.2.1))).trans (hHeld.2.2.2.2.1)
   have HS5_ := (hb.cell (World.block_lt_of_cell? _ _ (hHeld.2.2.2.2.2.1))).trans (hHeld.2.2.2.2.2.1)
   have HS6_ := (hb.cell (World.block_lt_of_cell? _ _ (hHeld.2.2.2.2.2.2.1))).trans (hHeld.2.2.2.2.2.2.1)
   have HS7_ := (hb.cell (World.block_lt_of_cell? _ _ (hHeld.2.2.2.2.2.2.2.1))).trans (hHeld.2.2.2.2.2.2.2.1)
   have HS8_ := (hb.cell (World.block_lt_of_cell? _ _ (hHeld.2.2.2.2.2.2.2.2.1))).trans (hHeld.2.2.2.2.2.2.2.2.1)
   have HS9_ := (hb.cell (World.block_lt_of_cell? _ _ (hHeld.2.2.2.2.2.2.2.2.2.1))).trans (hHeld.2.2.2.2.2.2.2.2.2.1)
   have HS10_ := (hb.cell (World.block_lt_of_cell? _ _ (hHeld.2.2.2.2.2.2.2.2.2.2.1))).trans (hHeld.2.2.2.2.2.2.2.2.2.2.1)
   have HS11_ := (hb.cell (World.block_lt_of_cell? _ _ (hHeld.2.2.2.2.2.2.2.2.2.2.2))).trans (hHeld.2.2.2.2.2.2.2.2.2.2.2)
   refine ⟨_, rfl, ?_⟩
   have n0_ := Aside0.mk (Kd.S_below (by (with_reducible repeat (first | apply Kd.S_alloc | apply Kd.S_drewN | apply Kd.S_drew)); exact HO593.out) hb)
   have n1_ := Aside0.mk (Kd.S_below (by (with_reducible repeat (first | apply Kd.S_alloc | apply Kd.S_drewN | apply Kd.S_drew)); exact HO597.out) hb)
   have n2_ := trivial
   have n3_ := trivial
   have n4_ := Aside0.mk (below_step (by repeat (first | (with_reducible first | exact HB.out | apply below_alloc | apply pw_below_drewN | apply below_drew1) | exact HB.out)) hb)
   clear HO593
   clear HO597
   clear HL604_5
   clear HR604_5
   clear HB
   have HO593 := n0_
   have HO597 := n1_
   have HL604_5 := n2_
   have HR604_5 := n3_
   have HB := n4_
   clear n0_ n1_ n2_ n3_ n4_
   (try clear hb)
   (try clear hb2)
   (try clear hk)
   (try clear hi)
   refine hK.out _ _ ⟨HS0_, HS1_, HS2_, HS3_, HS4_, HS5_, HS6_, HS7_, HS8_, HS9_, HS10_, HS11_⟩ (fun hHeld => ?_)
   clear hK K
   refine nm_ 74 ?_
   refine pv_ 43 37 75 274877906943 rfl rfl HT_ ?_; refine pv_ 43 38 76 549755813887 rfl rfl HT_ ?_
   refine tv_ 43 39 77 1099511627775 rfl rfl HT_ HW_ hHeld (by rintro w' ⟨s0, s1, s2, s3, s4, s5, s6, s7, s8, s9, s10, s11⟩; go_simp; with_reducible rfl) ?_
   refine pv_ 43 40 78 2199023255551 rfl rfl HT_ ?_; refine pv_ 43 41 79 4398046511103 rfl rfl HT_ ?_; refine pv_ 43 42 80 8796093022207 rfl rfl HT_ ?_
   refine done_ (done_of HT_.out (by kernel_rfl)) ?_
   try go_wp2
   go_meet
   case rel => exact ⟨_, H', ⟨by first | omega | exact Nat.le_refl _⟩, ⟨by repeat (first | (with_reducible first | exact HB.out | apply below_alloc | apply pw_below_drewN | apply below_drew1) | exact HB.out)⟩⟩
  case rest =>
   clear HC6
   try clear c1
   try clear c2
   try clear p2
   try clear c6
   try clear c10
   try clear c12
   try clear c21
   try clear c25
   try clear c66
   try clear c66b0
   try clear c66b1
   try clear c66b2
   obtain ⟨kq, HA, HJ5, HB⟩ := hcut
   cases kq with
   | zero => exact absurd HA.out (by simp [laws_FnTeams.j0])
   | succ kj5 =>
    have H := HA.out
    clear HA
    simp only [laws_FnTeams.j0] at H
    replace H := Option.bind_eq_some_iff.mp H
    obtain ⟨t607, A690, H⟩ := H
    replace H : ((impl_Standing.f kj5 t607).bind fun t610 => ((impl_AreTeams.f kj5 t607).bind fun t613 => (if (t613 != ((t610.length : Int) == (t607.length : Int))) = true then (laws_FnTeams.j1 kj5 t607 t610 (decide ((t607.length : Int) > 0))) else (laws_FnTeams.j1 kj5 t607 t610 false)))) = some r := H
    have A69 := Aside0.mk A690
    clear A690
    replace H := Option.bind_eq_some_iff.mp H
    obtain ⟨t610, A700, H⟩ := H
    replace H : ((impl_AreTeams.f kj5 t607).bind fun t613 => (if (t613 != ((t610.length : Int) == (t607.length : Int))) = true then (laws_FnTeams.j1 kj5 t607 t610 (decide ((t607.length : Int) > 0))) else (laws_FnTeams.j1 kj5 t607 t610 false))) = some r := H
    have A70 := Aside0.mk A700
    clear A700
    have HC71 := Aside0.mk H
    clear H
    go_upto_region 12 with (first | ((with_reducible refine gate_callee (f := 53) rfl ?_); refine goesL_ (some 87) rfl rfl Try.func53 (by kernel_rfl) rfl #[.slice A0 l0.length c0] rfl (by (try simp only [List.map_toArray, List.map_cons, List.map_nil]); first | done | rfl | (simp only [List.length_drop, List.length_take]; rfl)) ?_; (with_reducible refine (spec_DrawStanding.calls kj5 _ _ l0 t607 _ ?side1 ?side2 A69.out).mono ?_); (case side1 => repeat (first | exact (Kd.C_below HR0.out HB.out) | (with_reducible refine Kd.C_alloc ?_ _) | (with_reducible refine Kd.C_drewN ?_ _) | (with_reducible refine Kd.C_drew ?_))); (case side2 => exact HC0.out); rintro e w72 ⟨v608, rfl, ho0, hb⟩; refine ⟨_, rfl, ?_⟩; have n0_ := Aside0.mk (Kd.S_lower ho0 (below_size (by repeat (first | (with_reducible first | exact HB.out | apply below_alloc | apply pw_below_drewN | apply below_drew1) | exact HB.out)))); have n1_ := Aside0.mk (below_step (by repeat (first | (with_reducible first | exact HB.out | apply below_alloc | apply pw_below_drewN | apply below_drew1) | exact HB.out)) hb); clear HB; have HO609 := n0_; have HB := n1_; clear n0_ n1_; (try clear hb); (try clear hb2); (try clear hk); (try clear hi); (try clear ho0); obtain ⟨Ao73, co73, eo73⟩ := Kd.S_slice HO609.out; subst eo73) | ((with_reducible refine gate_callee (f := 34) rfl ?_); refine goesL_ (some 89) rfl rfl Try.func34 (by kernel_rfl) rfl #[.slice Ao73 t607.length co73] rfl (by (try simp only [List.map_toArray, List.map_cons, List.map_nil]); first | done | rfl | (simp only [List.length_drop, List.length_take]; rfl)) ?_; (with_reducible refine (impl_Standing.calls kj5 _ _ t607 t610 _ ?side1 ?side2 A70.out).mono ?_); (case side1 => repeat (first | exact (Kd.S_reads' HO609.out).2.2 | (with_reducible refine Kd.C_alloc ?_ _) | (with_reducible refine Kd.C_drewN ?_ _) | (with_reducible refine Kd.C_drew ?_))); (case side2 => exact (Kd.S_reads' HO609.out).2.1); rintro e w74 ⟨v611, rfl, ho0, hb⟩; refine ⟨_, rfl, ?_⟩; have n0_ := Aside0.mk (Kd.S_elder' (by (with_reducible repeat (first | apply Kd.S_alloc | apply Kd.S_drewN | apply Kd.S_drew)); exact HO609.out) (Kd.R_base ho0) hb); have n1_ := Aside0.mk (Kd.R_lower ho0 (below_size (by repeat (first | (with_reducible first | exact HB.out | apply below_alloc | apply pw_below_drewN | apply below_drew1) | exact HB.out)))); have n2_ := Aside0.mk (below_step (by repeat (first | (with_reducible first | exact HB.out | apply below_alloc | apply pw_below_drewN | apply below_drew1) | exact HB.out)) hb); clear HO609; clear HB; have HO609 := n0_; have HO612 := n1_; have HB := n2_; clear n0_ n1_ n2_; (try clear hb); (try clear hb2); (try clear hk); (try clear hi); (try clear ho0)))
    (try simp only [Act.put, Z1, Z2, Z3])
    go_cut [102] (fun v102 wc => ∃ (kq : Nat) (x102_70 : Bool), v102 = .bool x102_70 ∧ Aside0 (laws_FnTeams.j1 kq t607 t610 x102_70 = some r) ∧ Aside0 (kq ≤ kj5) ∧ Aside0 (Kd.S k61 61 wc w.heap.size (fun k_ => some k_ ≠ (v611 : Value).ownBlock) (.slice Ao73 t607.length co73) t607) ∧ Aside0 (Kd.R (Kd.int .i64) 3 wc w.heap.size (fun _ => True) v611 t610) ∧ Aside0 (Below w.heap.size w wc))
    case first =>
     have H := HC71.out
     clear HC71
     replace H := Option.bind_eq_some_iff.mp H
     obtain ⟨t613, A750, H⟩ := H
     replace H : (if (t613 != ((t610.length : Int) == (t607.length : Int))) = true then (laws_FnTeams.j1 kj5 t607 t610 (decide ((t607.length : Int) > 0))) else (laws_FnTeams.j1 kj5 t607 t610 false)) = some r := H
     have A75 := Aside0.mk A750
     clear A750
     by_cases c76 : (t613 != ((t610.length : Int) == (t607.length : Int))) = true
     rotate_left
     ·
      rw [if_neg c76] at H
      have c76b0 : (t613 != ((t610.length : Int) == (t607.length : Int))) = false := by simpa using c76
      (try (have c76b1 : decide (t613 = ((t610.length : Int) == (t607.length : Int))) = true := by simpa using c76))
      (try (have c76b2 : (t613 == ((t610.length : Int) == (t607.length : Int))) = true := by simpa using c76))
      clear c76
      (first | rw [c76b0] | (simp only [i64_w, i32_w]; rw [c76b0]) | skip)
      have H' := Aside0.mk H
      clear H
      go_wp2_with (first | ((with_reducible refine gate_callee (f := 21) rfl ?_); refine goesL_ (some 91) rfl rfl Try.func21 (by kernel_rfl) rfl #[.slice Ao73 t607.length co73] rfl (by (try simp only [List.map_toArray, List.map_cons, List.map_nil]); first | done | rfl | (simp only [List.length_drop, List.length_take]; rfl)) ?_; (with_reducible refine (impl_AreTeams.calls kj5 _ _ t607 t613 _ ?side1 ?side2 A75.out).mono ?_); (case side1 => repeat (first | exact (Kd.S_reads' HO609.out).2.2 | (with_reducible refine Kd.C_alloc ?_ _) | (with_reducible refine Kd.C_drewN ?_ _) | (with_reducible refine Kd.C_drew ?_))); (case side2 => exact (Kd.S_reads' HO609.out).2.1); rintro e w79 ⟨rfl, hb⟩; refine ⟨_, rfl, ?_⟩; have n0_ := Aside0.mk (Kd.S_below (by (with_reducible repeat (first | apply Kd.S_alloc | apply Kd.S_drewN | apply Kd.S_drew)); exact HO609.out) hb); have n1_ := Aside0.mk (Kd.R_below (by (with_reducible repeat (first | apply Kd.R_alloc | apply Kd.R_drewN | apply Kd.R_drew)); exact HO612.out) hb); have n2_ := Aside0.mk (below_step (by repeat (first | (with_reducible first | exact HB.out | apply below_alloc | apply pw_below_drewN | apply below_drew1) | exact HB.out)) hb); clear HO609; clear HO612; clear HB; have HO609 := n0_; have HO612 := n1_; have HB := n2_; clear n0_ n1_ n2_; (try clear hb); (try clear hb2); (try clear hk); (try clear hi); obtain ⟨Ao80, co80, eo80⟩ := Kd.R_slice HO612.out; subst eo80))
      go_meet
      case rel => exact ⟨_, (false), (by first | rfl | (simp; done) | (simp [*]; done)), H', ⟨by have := HJ5.out; first | omega | exact Nat.le_refl _⟩, ⟨by (with_reducible repeat (first | apply Kd.S_alloc | apply Kd.S_drewN | apply Kd.S_drew)); exact Kd.S_mono HO609.out (fun _ hk => hk.2)⟩, ⟨by (with_reducible repeat (first | apply Kd.R_alloc | apply Kd.R_drewN | apply Kd.R_drew)); exact HO612.out⟩, ⟨by repeat (first | (with_reducible first | exact HB.out | apply below_alloc | apply pw_below_drewN | apply below_drew1) | exact HB.out)⟩⟩
     rw [if_pos c76] at H
     have c76b0 : (t613 != ((t610.length : Int) == (t607.length : Int))) = true := c76
     (try (have c76b1 : decide (t613 = ((t610.length : Int) == (t607.length : Int))) = false := by simpa using c76))
     (try (have c76b2 : (t613 == ((t610.length : Int) == (t607.length : Int))) = false := by simpa using c76))
     (try (have c76b3 : ¬ (t613 = ((t610.length : Int) == (t607.length : Int))) := by simpa using c76))
     clear c76
     (first | rw [c76b0] | (simp only [i64_w, i32_w]; rw [c76b0]) | skip)
     have H' := Aside0.mk H
     clear H
     go_wp2_with (first | ((with_reducible refine gate_callee (f := 21) rfl ?_); refine goesL_ (some 91) rfl rfl Try.func21 (by kernel_rfl) rfl #[.slice Ao73 t607.length co73] rfl (by (try simp only [List.map_toArray, List.map_cons, List.map_nil]); first | done | rfl | (simp only [List.length_drop, List.length_take]; rfl)) ?_; (with_reducible refine (impl_AreTeams.calls kj5 _ _ t607 t613 _ ?side1 ?side2 A75.out).mono ?_); (case side1 => repeat (first | exact (Kd.S_reads' HO609.out).2.2 | (with_reducible refine Kd.C_alloc ?_ _) | (with_reducible refine Kd.C_drewN ?_ _) | (with_reducible refine Kd.C_drew ?_))); (case side2 => exact (Kd.S_reads' HO609.out).2.1); rintro e w77 ⟨rfl, hb⟩; refine ⟨_, rfl, ?_⟩; have n0_ := Aside0.mk (Kd.S_below (by (with_reducible repeat (first | apply Kd.S_alloc | apply Kd.S_drewN | apply Kd.S_drew)); exact HO609.out) hb); have n1_ := Aside0.mk (Kd.R_below (by (with_reducible repeat (first | apply Kd.R_alloc | apply Kd.R_drewN | apply Kd.R_drew)); exact HO612.out) hb); have n2_ := Aside0.mk (below_step (by repeat (first | (with_reducible first | exact HB.out | apply below_alloc | apply pw_below_drewN | apply below_drew1) | exact HB.out)) hb); clear HO609; clear HO612; clear HB; have HO609 := n0_; have HO612 := n1_; have HB := n2_; clear n0_ n1_ n2_; (try clear hb); (try clear hb2); (try clear hk); (try clear hi); obtain ⟨Ao78, co78, eo78⟩ := Kd.R_slice HO612.out; subst eo78))
     go_meet
     case rel => exact ⟨_, (decide ((t607.length : Int) > 0)), (by first | rfl | (simp; done) | (simp [*]; done)), H', ⟨by have := HJ5.out; first | omega | exact Nat.le_refl _⟩, ⟨by (with_reducible repeat (first | apply Kd.S_alloc | apply Kd.S_drewN | apply Kd.S_drew)); exact Kd.S_mono HO609.out (fun _ hk => hk.2)⟩, ⟨by (with_reducible repeat (first | apply Kd.R_alloc | apply Kd.R_drewN | apply Kd.R_drew)); exact HO612.out⟩, ⟨by repeat (first | (with_reducible first | exact HB.out | apply below_alloc | apply pw_below_drewN | apply below_drew1) | exact HB.out)⟩⟩
    case rest =>
     clear HC71
     try clear c1
     try clear c2
     try clear p2
     try clear c3
     try clear c5
     try clear c6
     try clear c7
     try clear c10
     try clear c12
     try clear c21
     try clear c25
     try clear c34
     try clear c53
     try clear c66
     try clear c66b0
     try clear c66b1
     try clear c66b2
     try clear c76
     try clear c76b0
     try clear c76b1
     try clear c76b2
     try clear p2
     obtain ⟨kq, x102_70, rfl, HA, HJ70, HO_11, HO_12, HB⟩ := hcut
     cases kq with
     | zero => exact absurd HA.out (by simp [laws_FnTeams.j1])
     | succ kj70 =>
      have H := HA.out
      clear HA
      simp only [laws_FnTeams.j1] at H
      by_cases c81 : x102_70 = true
      rotate_left
      ·
       replace c81 := Bool.eq_false_iff.mpr c81
       subst c81
       have H1 : (laws_FnTeams.l0 kj70 t607 t610 1) = some r := by rw [if_neg (show ¬ (false = true) by decide)] at H; exact H
       clear H
       have H := H1
       clear H1
       have H' := Aside0.mk H
       clear H
       go_wp2
       go_loopg [13] kj70 (fun kq v13 w' => ∃ (x13_3 : Int), v13 = .int .i64 x13_3 ∧ Aside0 (laws_FnTeams.l0 kq t607 t610 x13_3 = some r) ∧ Aside0 (kq ≤ kj70) ∧ Aside0 (Kd.S k61 61 w' w.heap.size (fun k_ => some k_ ≠ (v611 : Value).ownBlock) (.slice Ao73 t607.length co73) t607) ∧ Aside0 (Kd.R (Kd.int .i64) 3 w' w.heap.size (fun _ => True) v611 t610) ∧ Aside0 (Below w.heap.size w w'))
       case atStart => exact ⟨(1), (by first | rfl | (simp; done) | (simp [*]; done)), H', ⟨Nat.le_refl _⟩, ⟨by (with_reducible repeat (first | apply Kd.S_alloc | apply Kd.S_drewN | apply Kd.S_drew)); exact HO_11.out⟩, ⟨by (with_reducible repeat (first | apply Kd.R_alloc | apply Kd.R_drewN | apply Kd.R_drew)); exact HO_12.out⟩, ⟨by repeat (first | (with_reducible first | exact HB.out | apply below_alloc | apply pw_below_drewN | apply below_drew1) | exact HB.out)⟩⟩
       case round =>
        clear H'
        try clear c1
        try clear c2
        try clear p2
        try clear c3
        try clear c5
        try clear c6
        try clear c7
        try clear c8
        try clear c10
        try clear c12
        try clear c21
        try clear c25
        try clear c34
        try clear c53
        try clear c66
        try clear c66b0
        try clear c66b1
        try clear c66b2
        try clear c76
        try clear c76b0
        try clear c76b1
        try clear c76b2
        try clear c81
        try clear p2
        obtain ⟨x13_3, rfl, HA, HK3, HO_11, HO_12, HB⟩ := hrel
        cases gk with
        | zero => exact absurd HA.out (by simp [laws_FnTeams.l0])
        | succ k3 =>
         have H := HA.out
         clear HA
         simp only [laws_FnTeams.l0] at H
         by_cases c82 : x13_3 < (t610.length : Int)
         rotate_left
         ·
          rw [if_neg c82] at H
          have c82b0 : decide (x13_3 < (t610.length : Int)) = false := decide_eq_false c82
          clear c82
          obtain rfl := Option.some.inj H
          obtain ⟨Ao132, co132, eo132⟩ := Kd.R_slice HO_12.out
          subst eo132
          go_wp2
          all_goals (go_ret; exact ⟨by first | rfl | (simp [errW_none, errW_some] <;> rfl) | (simp [*, errW_none, errW_some] <;> rfl), by repeat (first | (with_reducible first | exact HB.out | apply below_alloc | apply pw_below_drewN | apply below_drew1) | exact HB.out)⟩)

         rw [if_pos c82] at H
         have c82b0 : decide (x13_3 < (t610.length : Int)) = true := decide_eq_true c82
         clear c82
         obtain ⟨ji83, hji83⟩ : ∃ j_ : Int, (wrap64 (x13_3 - 1)) = j_ := ⟨_, rfl⟩
         replace H : (if 0 ≤ (ji83) then (if (ji83) < (t610.length : Int) then ((impl_FindTeam.f t607 (rd t610 (ji83))).bind fun t615 => (if 0 ≤ t615 then (if t615 < (t607.length : Int) then (if 0 ≤ x13_3 then ((impl_FindTeam.f t607 (rd t610 x13_3)).bind fun t619 => (if 0 ≤ t619 then (if t619 < (t607.length : Int) then (if ((rd_T61 t607 t615).f2) < ((rd_T61 t607 t619).f2) then (some false) else (if ((rd_T61 t607 t615).f2) = ((rd_T61 t607 t619).f2) then (if ((rd_T61 t607 t615).f3) < ((rd_T61 t607 t619).f3) then (some false) else (laws_FnTeams.l0 k3 t607 t610 (wrap64 (x13_3 + 1)))) else (laws_FnTeams.l0 k3 t607 t610 (wrap64 (x13_3 + 1))))) else (none)) else (none))) else (none)) else (none)) else (none))) else (none)) else (none)) = some r := by first | (rw [hji83] at H; exact H) | (simp only [hji83] at H ⊢; exact H)
         have hji83w : (IntKind.i64.wrap (x13_3 - 1)) = ji83 := (i64_w _).trans hji83
         by_cases c84 : 0 ≤ (ji83)
         rotate_left
         ·
          rw [if_neg c84] at H
          exact absurd H (by simp)
         rw [if_pos c84] at H
         have c84b0 : decide (0 ≤ (ji83)) = true := decide_eq_true c84
         clear c84
         by_cases c85 : (ji83) < (t610.length : Int)
         rotate_left
         ·
          rw [if_neg c85] at H
          exact absurd H (by simp)
         rw [if_pos c85] at H
         have c85b0 : decide ((ji83) < (t610.length : Int)) = true := decide_eq_true c85
         clear c85
         replace H := Option.bind_eq_some_iff.mp H
         obtain ⟨t615, A860, H⟩ := H
         replace H : (if 0 ≤ t615 then (if t615 < (t607.length : Int) then (if 0 ≤ x13_3 then ((impl_FindTeam.f t607 (rd t610 x13_3)).bind fun t619 => (if 0 ≤ t619 then (if t619 < (t607.length : Int) then (if ((rd_T61 t607 t615).f2) < ((rd_T61 t607 t619).f2) then (some false) else (if ((rd_T61 t607 t615).f2) = ((rd_T61 t607 t619).f2) then (if ((rd_T61 t607 t615).f3) < ((rd_T61 t607 t619).f3) then (some false) else (laws_FnTeams.l0 k3 t607 t610 (wrap64 (x13_3 + 1)))) else (laws_FnTeams.l0 k3 t607 t610 (wrap64 (x13_3 + 1))))) else (none)) else (none))) else (none)) else (none)) else (none)) = some r := H
         have A86 := Aside0.mk A860
         clear A860
         by_cases c87 : 0 ≤ t615
         rotate_left
         ·
          rw [if_neg c87] at H
          exact absurd H (by simp)
         rw [if_pos c87] at H
         have c87b0 : decide (0 ≤ t615) = true := decide_eq_true c87
         clear c87
         by_cases c88 : t615 < (t607.length : Int)
         rotate_left
         ·
          rw [if_neg c88] at H
          exact absurd H (by simp)
         rw [if_pos c88] at H
         have c88b0 : decide (t615 < (t607.length : Int)) = true := decide_eq_true c88
         clear c88
         by_cases c89 : 0 ≤ x13_3
         rotate_left
         ·
          rw [if_neg c89] at H
          exact absurd H (by simp)
         rw [if_pos c89] at H
         have c89b0 : decide (0 ≤ x13_3) = true := decide_eq_true c89
         clear c89
         replace H := Option.bind_eq_some_iff.mp H
         obtain ⟨t619, A900, H⟩ := H
         replace H : (if 0 ≤ t619 then (if t619 < (t607.length : Int) then (if ((rd_T61 t607 t615).f2) < ((rd_T61 t607 t619).f2) then (some false) else (if ((rd_T61 t607 t615).f2) = ((rd_T61 t607 t619).f2) then (if ((rd_T61 t607 t615).f3) < ((rd_T61 t607 t619).f3) then (some false) else (laws_FnTeams.l0 k3 t607 t610 (wrap64 (x13_3 + 1)))) else (laws_FnTeams.l0 k3 t607 t610 (wrap64 (x13_3 + 1))))) else (none)) else (none)) = some r := H
         have A90 := Aside0.mk A900
         clear A900
         by_cases c91 : 0 ≤ t619
         rotate_left
         ·
          rw [if_neg c91] at H
          exact absurd H (by simp)
         rw [if_pos c91] at H
         have c91b0 : decide (0 ≤ t619) = true := decide_eq_true c91
         clear c91
         by_cases c92 : t619 < (t607.length : Int)
         rotate_left
         ·
          rw [if_neg c92] at H
          exact absurd H (by simp)
         rw [if_pos c92] at H
         have c92b0 : decide (t619 < (t607.length : Int)) = true := decide_eq_true c92
         clear c92
         by_cases c93 : ((rd_T61 t607 t615).f2) < ((rd_T61 t607 t619).f2)
         rotate_left
         ·
          rw [if_neg c93] at H
          have c93b0 : decide (((rd_T61 t607 t615).f2) < ((rd_T61 t607 t619).f2)) = false := decide_eq_false c93
          clear c93
          by_cases c103 : ((rd_T61 t607 t615).f2) = ((rd_T61 t607 t619).f2)
          rotate_left
          ·
           rw [if_neg c103] at H
           have c103b0 : (((rd_T61 t607 t615).f2) == ((rd_T61 t607 t619).f2)) = false := beq_eq_false_iff_ne.mpr c103
           have c103b1 : (((rd_T61 t607 t615).f2) != ((rd_T61 t607 t619).f2)) = true := bne_iff_ne.mpr c103
           have H' := Aside0.mk H
           clear H
           obtain ⟨Ao123, co123, eo123⟩ := Kd.R_slice HO_12.out
           subst eo123
           have p614 : 0 ≤ ((ji83) : Int) := of_decide_eq_true (by first | (with_reducible assumption) | assumption)
           have q614 : (ji83) < (t610.length : Int) := of_decide_eq_true (by first | (with_reducible assumption) | assumption)
           obtain ⟨ad614, e614, hx614_0⟩ := Kd.at_int (Kd.R_reads' HO_12.out).2.2 (ji83) p614 q614
           cases e614
           replace p614 := eq_true p614
           replace q614 := eq_true q614
           go_wp2_with (first | ((with_reducible refine gate_callee (f := 18) rfl ?_); refine goesL_ (some 116) rfl rfl Try.func18 (by kernel_rfl) rfl #[.slice Ao73 t607.length co73, .int .i64 (rd t610 (ji83))] rfl (by (try simp only [List.map_toArray, List.map_cons, List.map_nil]); first | done | (simp only [hji83]; rfl) | rfl | (simp only [List.length_drop, List.length_take]; rfl)) ?_; (with_reducible refine (impl_FindTeam.calls _ _ t607 (rd t610 (ji83)) t615 _ ?side1 ?side2 A86.out).mono ?_); (case side1 => repeat (first | exact (Kd.S_reads' HO_11.out).2.2 | (with_reducible refine Kd.C_alloc ?_ _) | (with_reducible refine Kd.C_drewN ?_ _) | (with_reducible refine Kd.C_drew ?_))); (case side2 => exact (Kd.S_reads' HO_11.out).2.1); rintro e w124 ⟨rfl, hb⟩; refine ⟨_, rfl, ?_⟩; have n0_ := Aside0.mk (Kd.S_below (by (with_reducible repeat (first | apply Kd.S_alloc | apply Kd.S_drewN | apply Kd.S_drew)); exact HO_11.out) hb); have n1_ := Aside0.mk (Kd.R_below (by (with_reducible repeat (first | apply Kd.R_alloc | apply Kd.R_drewN | apply Kd.R_drew)); exact HO_12.out) hb); have n2_ := Aside0.mk (below_step (by repeat (first | (with_reducible first | exact HB.out | apply below_alloc | apply pw_below_drewN | apply below_drew1) | exact HB.out)) hb); clear HO_11; clear HO_12; clear HB; have HO_11 := n0_; have HO_12 := n1_; have HB := n2_; clear n0_ n1_ n2_; (try clear hb); (try clear hb2); (try clear hk); (try clear hi); have p616 : 0 ≤ (t615 : Int) := of_decide_eq_true (by first | (with_reducible assumption) | assumption); have q616 : t615 < (t607.length : Int) := of_decide_eq_true (by first | (with_reducible assumption) | assumption); obtain ⟨ad616, A616_5, c616_5, e616, hx616_0, hx616_1, hx616_2, hx616_3, hx616_4, hx616_5, hl616_5, hi616_5⟩ := at_T61 (Kd.S_reads' HO_11.out).2.2 t615 p616 q616; cases e616; obtain ⟨ce616, hce616, hMe616, hcc616⟩ := Kd.S_get HO_11.out z61 t615 p616 (by first | exact q616 | exact of_decide_eq_true (by first | (with_reducible assumption) | assumption) | (have e_ := (Kd.S_reads' HO_11.out).1; omega)); obtain ⟨ve616_5, rfl, ge616_5⟩ := k61_openM hMe616; have hv616_5 := hcc616 5 _ rfl; rw [add_field _ _ 5 (by omega)] at hv616_5; replace hv616_5 := Option.some.inj (hv616_5.symm.trans hx616_5); rw [hv616_5] at ge616_5; have HL616_5 := Aside0.mk (show Kd.R (Kd.int .i64) 3 _ _ _ _ ((rd_T61 t607 t615).f5) from ge616_5); clear hv616_5 ge616_5; clear hcc616 hce616; have HR616_5 := Aside0.mk hi616_5; have HC616_5 := Aside0.mk hl616_5; clear hi616_5 hl616_5; replace p616 := eq_true p616; replace q616 := eq_true q616) | ((with_reducible refine gate_dst (N := 14) rfl ?_); (try (refine gate_guard (by rfl) ?_; dsimp only)); refine box_event ?hg (N := 14) ?hd (cs := #[.int .i64 0, .int .i64 0, .int .i64 0, .int .i64 0, .int .i64 0, .slice none 0 0]) (t := 61) ?hr ?_; (case hd => rfl); (case hg => rfl); (case hr => first | (go_simp; done) | (go_simp; rfl)); intro gb617 hg w125 hbox hb; have n0_ := Aside0.mk (Kd.S_below (Kd.S_elderB (by (with_reducible repeat (first | apply Kd.S_alloc | apply Kd.S_drewN | apply Kd.S_drew)); exact HO_11.out) gb617 (Nat.le_of_eq hg.symm)) hb); have n1_ := Aside0.mk (Kd.R_below (by (with_reducible repeat (first | apply Kd.R_alloc | apply Kd.R_drewN | apply Kd.R_drew)); exact HO_12.out) hb); have n2_ := Aside0.mk (Kd.R_below (by (with_reducible repeat (first | apply Kd.R_alloc | apply Kd.R_drewN | apply Kd.R_drew)); exact HL616_5.out) hb); have n3_ := Aside0.mk (Kd.C_below (by repeat (first | (with_reducible exact HR616_5.out) | (with_reducible refine Kd.C_alloc ?_ _) | (with_reducible refine Kd.C_drewN ?_ _) | (with_reducible refine Kd.C_drew ?_) | exact HR616_5.out)) hb); have n4_ := Aside0.mk (below_step (by repeat (first | (with_reducible first | exact HB.out | apply below_alloc | apply pw_below_drewN | apply below_drew1) | exact HB.out)) hb); have n5_ := Aside0.mk (hbox); have n6_ := Aside0.mk ((by rw [hg]; exact (below_size (by repeat (first | (with_reducible first | exact HB.out | apply below_alloc | apply pw_below_drewN | apply below_drew1) | exact HB.out))) : w.heap.size ≤ gb617)); have n7_ := Aside0.mk ((by rw [hg]; exact (below_size (by repeat (first | (with_reducible first | exact HB.out | apply below_alloc | apply pw_below_drewN | apply below_drew1) | exact HB.out))) : w.heap.size ≤ gb617)); clear HO_11; clear HO_12; clear HL616_5; clear HR616_5; clear HB; have HO_11 := n0_; have HO_12 := n1_; have HL616_5 := n2_; have HR616_5 := n3_; have HB := n4_; have BK617 := n5_; have GW617 := n6_; have GE617 := n7_; clear n0_ n1_ n2_ n3_ n4_ n5_ n6_ n7_; clear hb hbox hg; have hcz126_0 : w125.cell? ⟨gb617, 0, none⟩ = some (.int .i64 0) := (blk_cell BK617.out 0).trans rfl; have hcz126_1 : w125.cell? ⟨gb617, 1, none⟩ = some (.int .i64 0) := (blk_cell BK617.out 1).trans rfl; have hcz126_2 : w125.cell? ⟨gb617, 2, none⟩ = some (.int .i64 0) := (blk_cell BK617.out 2).trans rfl; have hcz126_3 : w125.cell? ⟨gb617, 3, none⟩ = some (.int .i64 0) := (blk_cell BK617.out 3).trans rfl; have hcz126_4 : w125.cell? ⟨gb617, 4, none⟩ = some (.int .i64 0) := (blk_cell BK617.out 4).trans rfl; have hcz126_5 : w125.cell? ⟨gb617, 5, none⟩ = some (.slice none 0 0) := (blk_cell BK617.out 5).trans rfl; have hfz126_0 := blk_frozen BK617.out 0; have hfz126_1 := blk_frozen BK617.out 1; have hfz126_2 := blk_frozen BK617.out 2; have hfz126_3 := blk_frozen BK617.out 3; have hfz126_4 := blk_frozen BK617.out 4; have hfz126_5 := blk_frozen BK617.out 5; have p618 : 0 ≤ (x13_3 : Int) := of_decide_eq_true (by first | (with_reducible assumption) | assumption); have q618 : x13_3 < (t610.length : Int) := of_decide_eq_true (by first | (with_reducible assumption) | assumption); obtain ⟨ad618, e618, hx618_0⟩ := Kd.at_int (Kd.R_reads' HO_12.out).2.2 x13_3 p618 q618; obtain rfl : ad614 = ad618 := (by injection e618); have hn618_0 : ad614.block ≠ gb617 := Kd.own_blk (Kd.R_ne HO_12.out BK617.out (by decide)); have hn618_1 : ad614.block ≠ gb617 := Kd.own_blk (Kd.R_ne HO_12.out BK617.out (by decide)); have hn618_2 : ad614.block ≠ gb617 := Kd.own_blk (Kd.R_ne HO_12.out BK617.out (by decide)); have hn618_3 : ad614.block ≠ gb617 := Kd.own_blk (Kd.R_ne HO_12.out BK617.out (by decide)); have hn618_4 : ad614.block ≠ gb617 := Kd.own_blk (Kd.R_ne HO_12.out BK617.out (by decide)); have hn618_5 : ad614.block ≠ gb617 := Kd.own_blk (Kd.R_ne HO_12.out BK617.out (by decide)); replace hx618_0 := (cell_far (p := ⟨gb617, 0, none⟩) (by first | (rw [add_block]; exact hn618_0) | (show (Addr.add _ _).block ≠ _; rw [add_block]; exact hn618_0) | exact hn618_0) (.int .i64 ((rd_T61 t607 t615).f0))).trans hx618_0; replace hx618_0 := (cell_far (p := ⟨gb617, 1, none⟩) (by first | (rw [add_block]; exact hn618_1) | (show (Addr.add _ _).block ≠ _; rw [add_block]; exact hn618_1) | exact hn618_1) (.int .i64 ((rd_T61 t607 t615).f1))).trans hx618_0; replace hx618_0 := (cell_far (p := ⟨gb617, 2, none⟩) (by first | (rw [add_block]; exact hn618_2) | (show (Addr.add _ _).block ≠ _; rw [add_block]; exact hn618_2) | exact hn618_2) (.int .i64 ((rd_T61 t607 t615).f2))).trans hx618_0; replace hx618_0 := (cell_far (p := ⟨gb617, 3, none⟩) (by first | (rw [add_block]; exact hn618_3) | (show (Addr.add _ _).block ≠ _; rw [add_block]; exact hn618_3) | exact hn618_3) (.int .i64 ((rd_T61 t607 t615).f3))).trans hx618_0; replace hx618_0 := (cell_far (p := ⟨gb617, 4, none⟩) (by first | (rw [add_block]; exact hn618_4) | (show (Addr.add _ _).block ≠ _; rw [add_block]; exact hn618_4) | exact hn618_4) (.int .i64 ((rd_T61 t607 t615).f4))).trans hx618_0; replace hx618_0 := (cell_far (p := ⟨gb617, 5, none⟩) (by first | (rw [add_block]; exact hn618_5) | (show (Addr.add _ _).block ≠ _; rw [add_block]; exact hn618_5) | exact hn618_5) (.slice A616_5 ((rd_T61 t607 t615).f5).length c616_5)).trans hx618_0; clear hn618_0; clear hn618_1; clear hn618_2; clear hn618_3; clear hn618_4; clear hn618_5; replace p618 := eq_true p618; replace q618 := eq_true q618) | ((with_reducible refine gate_callee (f := 18) rfl ?_); refine goesL_ (some 125) rfl rfl Try.func18 (by kernel_rfl) rfl #[.slice (some ad616) t607.length co73, .int .i64 (rd t610 x13_3)] rfl (by (try simp only [List.map_toArray, List.map_cons, List.map_nil]); first | done | rfl | (simp only [List.length_drop, List.length_take]; rfl)) ?_; (with_reducible refine (impl_FindTeam.calls _ _ t607 (rd t610 x13_3) t619 _ ?side1 ?side2 A90.out).mono ?_); (case side1 => refine (Kd.S_reads' (e := 61) (base := w.heap.size) (ok := fun k_ => (some k_ ≠ (.slice (some ad614) t610.length co123 : Value).ownBlock ∧ k_ ≠ gb617)) (n := t607.length) (c := co73) ?_).2.2; exact (by (with_reducible repeat (first | apply Kd.S_alloc | apply Kd.S_drewN | apply Kd.S_drew)); exact (Kd.S_mono (Kd.S_far (p := ⟨gb617, 5, none⟩) (Kd.S_far (p := ⟨gb617, 4, none⟩) (Kd.S_far (p := ⟨gb617, 3, none⟩) (Kd.S_far (p := ⟨gb617, 2, none⟩) (Kd.S_far (p := ⟨gb617, 1, none⟩) (Kd.S_far (p := ⟨gb617, 0, none⟩) (Kd.S_mono HO_11.out (fun k_ hk => (⟨hk, hk.2⟩ : _ ∧ k_ ≠ gb617))) (fun _ hk => hk.2) (.int .i64 ((rd_T61 t607 t615).f0))) (fun _ hk => hk.2) (.int .i64 ((rd_T61 t607 t615).f1))) (fun _ hk => hk.2) (.int .i64 ((rd_T61 t607 t615).f2))) (fun _ hk => hk.2) (.int .i64 ((rd_T61 t607 t615).f3))) (fun _ hk => hk.2) (.int .i64 ((rd_T61 t607 t615).f4))) (fun _ hk => hk.2) (.slice A616_5 ((rd_T61 t607 t615).f5).length c616_5)) (fun _ h_ => h_.1)))); (case side2 => exact (Kd.S_reads' HO_11.out).2.1); rintro e w127 ⟨rfl, hb⟩; refine ⟨_, rfl, ?_⟩; have n0_ := Aside0.mk (Kd.S_below (by (with_reducible repeat (first | apply Kd.S_alloc | apply Kd.S_drewN | apply Kd.S_drew)); exact (Kd.S_mono (Kd.S_far (p := ⟨gb617, 5, none⟩) (Kd.S_far (p := ⟨gb617, 4, none⟩) (Kd.S_far (p := ⟨gb617, 3, none⟩) (Kd.S_far (p := ⟨gb617, 2, none⟩) (Kd.S_far (p := ⟨gb617, 1, none⟩) (Kd.S_far (p := ⟨gb617, 0, none⟩) (Kd.S_mono HO_11.out (fun k_ hk => (⟨hk, hk.2⟩ : _ ∧ k_ ≠ gb617))) (fun _ hk => hk.2) (.int .i64 ((rd_T61 t607 t615).f0))) (fun _ hk => hk.2) (.int .i64 ((rd_T61 t607 t615).f1))) (fun _ hk => hk.2) (.int .i64 ((rd_T61 t607 t615).f2))) (fun _ hk => hk.2) (.int .i64 ((rd_T61 t607 t615).f3))) (fun _ hk => hk.2) (.int .i64 ((rd_T61 t607 t615).f4))) (fun _ hk => hk.2) (.slice A616_5 ((rd_T61 t607 t615).f5).length c616_5)) (fun _ h_ => h_.1))) hb); have n1_ := Aside0.mk (Kd.R_below (by (with_reducible repeat (first | apply Kd.R_alloc | apply Kd.R_drewN | apply Kd.R_drew)); exact (Kd.R_mono (Kd.R_far (p := ⟨gb617, 5, none⟩) (Kd.R_far (p := ⟨gb617, 4, none⟩) (Kd.R_far (p := ⟨gb617, 3, none⟩) (Kd.R_far (p := ⟨gb617, 2, none⟩) (Kd.R_far (p := ⟨gb617, 1, none⟩) (Kd.R_far (p := ⟨gb617, 0, none⟩) (Kd.R_types HO_12.out BK617.out (by decide)) (fun _ hk => hk.2) (.int .i64 ((rd_T61 t607 t615).f0))) (fun _ hk => hk.2) (.int .i64 ((rd_T61 t607 t615).f1))) (fun _ hk => hk.2) (.int .i64 ((rd_T61 t607 t615).f2))) (fun _ hk => hk.2) (.int .i64 ((rd_T61 t607 t615).f3))) (fun _ hk => hk.2) (.int .i64 ((rd_T61 t607 t615).f4))) (fun _ hk => hk.2) (.slice A616_5 ((rd_T61 t607 t615).f5).length c616_5)) (fun _ h_ => h_.1))) hb); have n2_ := Aside0.mk (Kd.R_below (by (with_reducible repeat (first | apply Kd.R_alloc | apply Kd.R_drewN | apply Kd.R_drew)); exact (Kd.R_mono (Kd.R_far (p := ⟨gb617, 5, none⟩) (Kd.R_far (p := ⟨gb617, 4, none⟩) (Kd.R_far (p := ⟨gb617, 3, none⟩) (Kd.R_far (p := ⟨gb617, 2, none⟩) (Kd.R_far (p := ⟨gb617, 1, none⟩) (Kd.R_far (p := ⟨gb617, 0, none⟩) (Kd.R_types HL616_5.out BK617.out (by decide)) (fun _ hk => hk.2) (.int .i64 ((rd_T61 t607 t615).f0))) (fun _ hk => hk.2) (.int .i64 ((rd_T61 t607 t615).f1))) (fun _ hk => hk.2) (.int .i64 ((rd_T61 t607 t615).f2))) (fun _ hk => hk.2) (.int .i64 ((rd_T61 t607 t615).f3))) (fun _ hk => hk.2) (.int .i64 ((rd_T61 t607 t615).f4))) (fun _ hk => hk.2) (.slice A616_5 ((rd_T61 t607 t615).f5).length c616_5)) (fun _ h_ => h_.1))) hb); have n3_ := Aside0.mk (Kd.C_below ((Kd.R_reads' (by (with_reducible repeat (first | apply Kd.R_alloc | apply Kd.R_drewN | apply Kd.R_drew)); exact (Kd.R_mono (Kd.R_far (p := ⟨gb617, 5, none⟩) (Kd.R_far (p := ⟨gb617, 4, none⟩) (Kd.R_far (p := ⟨gb617, 3, none⟩) (Kd.R_far (p := ⟨gb617, 2, none⟩) (Kd.R_far (p := ⟨gb617, 1, none⟩) (Kd.R_far (p := ⟨gb617, 0, none⟩) (Kd.R_types HL616_5.out BK617.out (by decide)) (fun _ hk => hk.2) (.int .i64 ((rd_T61 t607 t615).f0))) (fun _ hk => hk.2) (.int .i64 ((rd_T61 t607 t615).f1))) (fun _ hk => hk.2) (.int .i64 ((rd_T61 t607 t615).f2))) (fun _ hk => hk.2) (.int .i64 ((rd_T61 t607 t615).f3))) (fun _ hk => hk.2) (.int .i64 ((rd_T61 t607 t615).f4))) (fun _ hk => hk.2) (.slice A616_5 ((rd_T61 t607 t615).f5).length c616_5)) (fun _ h_ => h_.1)))).2.2) hb); have n4_ := Aside0.mk (blk_below (g := gb617) (o := .cells #[.int .i64 ((rd_T61 t607 t615).f0), .int .i64 ((rd_T61 t607 t615).f1), .int .i64 ((rd_T61 t607 t615).f2), .int .i64 ((rd_T61 t607 t615).f3), .int .i64 ((rd_T61 t607 t615).f4), .slice A616_5 ((rd_T61 t607 t615).f5).length c616_5] 61 (0, 0)) (by (with_reducible repeat (first | refine blk_drewN ?_ _ | refine blk_drew ?_ | refine blk_alloc ?_ _)); refine blk_put (cs := #[.int .i64 ((rd_T61 t607 t615).f0), .int .i64 ((rd_T61 t607 t615).f1), .int .i64 ((rd_T61 t607 t615).f2), .int .i64 ((rd_T61 t607 t615).f3), .int .i64 ((rd_T61 t607 t615).f4), .slice none 0 0]) ?_ 5 _ rfl; (with_reducible repeat (first | refine blk_drewN ?_ _ | refine blk_drew ?_ | refine blk_alloc ?_ _)); refine blk_put (cs := #[.int .i64 ((rd_T61 t607 t615).f0), .int .i64 ((rd_T61 t607 t615).f1), .int .i64 ((rd_T61 t607 t615).f2), .int .i64 ((rd_T61 t607 t615).f3), .int .i64 0, .slice none 0 0]) ?_ 4 _ rfl; (with_reducible repeat (first | refine blk_drewN ?_ _ | refine blk_drew ?_ | refine blk_alloc ?_ _)); refine blk_put (cs := #[.int .i64 ((rd_T61 t607 t615).f0), .int .i64 ((rd_T61 t607 t615).f1), .int .i64 ((rd_T61 t607 t615).f2), .int .i64 0, .int .i64 0, .slice none 0 0]) ?_ 3 _ rfl; (with_reducible repeat (first | refine blk_drewN ?_ _ | refine blk_drew ?_ | refine blk_alloc ?_ _)); refine blk_put (cs := #[.int .i64 ((rd_T61 t607 t615).f0), .int .i64 ((rd_T61 t607 t615).f1), .int .i64 0, .int .i64 0, .int .i64 0, .slice none 0 0]) ?_ 2 _ rfl; (with_reducible repeat (first | refine blk_drewN ?_ _ | refine blk_drew ?_ | refine blk_alloc ?_ _)); refine blk_put (cs := #[.int .i64 ((rd_T61 t607 t615).f0), .int .i64 0, .int .i64 0, .int .i64 0, .int .i64 0, .slice none 0 0]) ?_ 1 _ rfl; (with_reducible repeat (first | refine blk_drewN ?_ _ | refine blk_drew ?_ | refine blk_alloc ?_ _)); refine blk_put (cs := #[.int .i64 0, .int .i64 0, .int .i64 0, .int .i64 0, .int .i64 0, .slice none 0 0]) ?_ 0 _ rfl; (with_reducible repeat (first | refine blk_drewN ?_ _ | refine blk_drew ?_ | refine blk_alloc ?_ _)); exact BK617.out) hb); have n5_ := Aside0.mk (below_step (by repeat (first | (with_reducible first | exact HB.out | apply below_alloc | apply pw_below_drewN | apply below_drew1 | refine below_set ?_ GE617.out) | exact HB.out)) hb); clear HO_11; clear HO_12; clear HL616_5; clear HR616_5; clear BK617; clear HB; have HO_11 := n0_; have HO_12 := n1_; have HL616_5 := n2_; have HR616_5 := n3_; have BK617 := n4_; have HB := n5_; clear n0_ n1_ n2_ n3_ n4_ n5_; (try clear hb); (try clear hb2); (try clear hk); (try clear hi); have p620 : 0 ≤ (t619 : Int) := of_decide_eq_true (by first | (with_reducible assumption) | assumption); have q620 : t619 < (t607.length : Int) := of_decide_eq_true (by first | (with_reducible assumption) | assumption); obtain ⟨ad620, A620_5, c620_5, e620, hx620_0, hx620_1, hx620_2, hx620_3, hx620_4, hx620_5, hl620_5, hi620_5⟩ := at_T61 (Kd.S_reads' HO_11.out).2.2 t619 p620 q620; obtain rfl : ad616 = ad620 := (by injection e620); obtain ⟨ce620, hce620, hMe620, hcc620⟩ := Kd.S_get HO_11.out z61 t619 p620 (by first | exact q620 | exact of_decide_eq_true (by first | (with_reducible assumption) | assumption) | (have e_ := (Kd.S_reads' HO_11.out).1; omega)); obtain ⟨ve620_5, rfl, ge620_5⟩ := k61_openM hMe620; have hv620_5 := hcc620 5 _ rfl; rw [add_field _ _ 5 (by omega)] at hv620_5; replace hv620_5 := Option.some.inj (hv620_5.symm.trans hx620_5); rw [hv620_5] at ge620_5; have HL620_5 := Aside0.mk (show Kd.R (Kd.int .i64) 3 _ _ _ _ ((rd_T61 t607 t619).f5) from ge620_5); clear hv620_5 ge620_5; clear hcc620 hce620; have HR620_5 := Aside0.mk hi620_5; have HC620_5 := Aside0.mk hl620_5; clear hi620_5 hl620_5; replace p620 := eq_true p620; replace q620 := eq_true q620) | ((with_reducible refine gate_dst (N := 15) rfl ?_); (try (refine gate_guard (by rfl) ?_; dsimp only)); refine box_event ?hg (N := 15) ?hd (cs := #[.int .i64 0, .int .i64 0, .int .i64 0, .int .i64 0, .int .i64 0, .slice none 0 0]) (t := 61) ?hr ?_; (case hd => rfl); (case hg => rfl); (case hr => first | (go_simp; done) | (go_simp; rfl)); intro gb621 hg w128 hbox hb; have n0_ := Aside0.mk (Kd.S_below (Kd.S_elderB (by (with_reducible repeat (first | apply Kd.S_alloc | apply Kd.S_drewN | apply Kd.S_drew)); exact HO_11.out) gb621 (Nat.le_of_eq hg.symm)) hb); have n1_ := Aside0.mk (Kd.R_below (by (with_reducible repeat (first | apply Kd.R_alloc | apply Kd.R_drewN | apply Kd.R_drew)); exact HO_12.out) hb); have n2_ := Aside0.mk (Kd.R_below (by (with_reducible repeat (first | apply Kd.R_alloc | apply Kd.R_drewN | apply Kd.R_drew)); exact HL616_5.out) hb); have n3_ := Aside0.mk (Kd.R_below (by (with_reducible repeat (first | apply Kd.R_alloc | apply Kd.R_drewN | apply Kd.R_drew)); exact HL620_5.out) hb); have n4_ := Aside0.mk (Kd.C_below (by repeat (first | (with_reducible exact HR616_5.out) | (with_reducible refine Kd.C_alloc ?_ _) | (with_reducible refine Kd.C_drewN ?_ _) | (with_reducible refine Kd.C_drew ?_) | exact HR616_5.out)) hb); have n5_ := Aside0.mk (blk_below (g := gb617) (o := .cells #[.int .i64 ((rd_T61 t607 t615).f0), .int .i64 ((rd_T61 t607 t615).f1), .int .i64 ((rd_T61 t607 t615).f2), .int .i64 ((rd_T61 t607 t615).f3), .int .i64 ((rd_T61 t607 t615).f4), .slice A616_5 ((rd_T61 t607 t615).f5).length c616_5] 61 (0, 0)) (by (with_reducible repeat (first | refine blk_drewN ?_ _ | refine blk_drew ?_ | refine blk_alloc ?_ _)); exact BK617.out) hb); have n6_ := Aside0.mk (Kd.C_below (by repeat (first | (with_reducible exact HR620_5.out) | (with_reducible refine Kd.C_alloc ?_ _) | (with_reducible refine Kd.C_drewN ?_ _) | (with_reducible refine Kd.C_drew ?_) | exact HR620_5.out)) hb); have n7_ := Aside0.mk (below_step (by repeat (first | (with_reducible first | exact HB.out | apply below_alloc | apply pw_below_drewN | apply below_drew1 | refine below_set ?_ GE617.out) | exact HB.out)) hb); have n8_ := Aside0.mk (hbox); have n9_ := Aside0.mk ((by rw [hg]; exact (below_size (by repeat (first | (with_reducible first | exact HB.out | apply below_alloc | apply pw_below_drewN | apply below_drew1 | refine below_set ?_ GE617.out) | exact HB.out))) : w.heap.size ≤ gb621)); have n10_ := Aside0.mk ((by rw [hg]; exact (below_size (by repeat (first | (with_reducible first | exact HB.out | apply below_alloc | apply pw_below_drewN | apply below_drew1 | refine below_set ?_ GE617.out) | exact HB.out))) : w.heap.size ≤ gb621)); have n11_ := Aside0.mk ((by rw [hg]; exact Nat.ne_of_lt (blk_lt (g := gb617) (o := .cells #[.int .i64 ((rd_T61 t607 t615).f0), .int .i64 ((rd_T61 t607 t615).f1), .int .i64 ((rd_T61 t607 t615).f2), .int .i64 ((rd_T61 t607 t615).f3), .int .i64 ((rd_T61 t607 t615).f4), .slice A616_5 ((rd_T61 t607 t615).f5).length c616_5] 61 (0, 0)) (by (with_reducible repeat (first | refine blk_drewN ?_ _ | refine blk_drew ?_ | refine blk_alloc ?_ _)); exact BK617.out)) : gb617 ≠ gb621)); have n12_ := Aside0.mk ((by rw [hg]; exact Nat.ne_of_gt (blk_lt (g := gb617) (o := .cells #[.int .i64 ((rd_T61 t607 t615).f0), .int .i64 ((rd_T61 t607 t615).f1), .int .i64 ((rd_T61 t607 t615).f2), .int .i64 ((rd_T61 t607 t615).f3), .int .i64 ((rd_T61 t607 t615).f4), .slice A616_5 ((rd_T61 t607 t615).f5).length c616_5] 61 (0, 0)) (by (with_reducible repeat (first | refine blk_drewN ?_ _ | refine blk_drew ?_ | refine blk_alloc ?_ _)); exact BK617.out)) : gb621 ≠ gb617)); clear HO_11; clear HO_12; clear HL616_5; clear HL620_5; clear HR616_5; clear BK617; clear HR620_5; clear HB; have HO_11 := n0_; have HO_12 := n1_; have HL616_5 := n2_; have HL620_5 := n3_; have HR616_5 := n4_; have BK617 := n5_; have HR620_5 := n6_; have HB := n7_; have BK621 := n8_; have GW621 := n9_; have GE621 := n10_; have NB617_621 := n11_; have NB621_617 := n12_; clear n0_ n1_ n2_ n3_ n4_ n5_ n6_ n7_ n8_ n9_ n10_ n11_ n12_; clear hb hbox hg; have hnb129 := NB621_617.out; have hnc129 := NB617_621.out; have hcz130_0 : w128.cell? ⟨gb621, 0, none⟩ = some (.int .i64 0) := (blk_cell BK621.out 0).trans rfl; have hcz130_1 : w128.cell? ⟨gb621, 1, none⟩ = some (.int .i64 0) := (blk_cell BK621.out 1).trans rfl; have hcz130_2 : w128.cell? ⟨gb621, 2, none⟩ = some (.int .i64 0) := (blk_cell BK621.out 2).trans rfl; have hcz130_3 : w128.cell? ⟨gb621, 3, none⟩ = some (.int .i64 0) := (blk_cell BK621.out 3).trans rfl; have hcz130_4 : w128.cell? ⟨gb621, 4, none⟩ = some (.int .i64 0) := (blk_cell BK621.out 4).trans rfl; have hcz130_5 : w128.cell? ⟨gb621, 5, none⟩ = some (.slice none 0 0) := (blk_cell BK621.out 5).trans rfl; have hfz130_0 := blk_frozen BK621.out 0; have hfz130_1 := blk_frozen BK621.out 1; have hfz130_2 := blk_frozen BK621.out 2; have hfz130_3 := blk_frozen BK621.out 3; have hfz130_4 := blk_frozen BK621.out 4; have hfz130_5 := blk_frozen BK621.out 5; have hcz131_0 : w128.cell? ⟨gb617, 0, none⟩ = some (.int .i64 ((rd_T61 t607 t615).f0)) := (blk_cell BK617.out 0).trans rfl; have hcz131_1 : w128.cell? ⟨gb617, 1, none⟩ = some (.int .i64 ((rd_T61 t607 t615).f1)) := (blk_cell BK617.out 1).trans rfl; have hcz131_2 : w128.cell? ⟨gb617, 2, none⟩ = some (.int .i64 ((rd_T61 t607 t615).f2)) := (blk_cell BK617.out 2).trans rfl; have hcz131_3 : w128.cell? ⟨gb617, 3, none⟩ = some (.int .i64 ((rd_T61 t607 t615).f3)) := (blk_cell BK617.out 3).trans rfl; have hcz131_4 : w128.cell? ⟨gb617, 4, none⟩ = some (.int .i64 ((rd_T61 t607 t615).f4)) := (blk_cell BK617.out 4).trans rfl; have hcz131_5 : w128.cell? ⟨gb617, 5, none⟩ = some (.slice A616_5 ((rd_T61 t607 t615).f5).length c616_5) := (blk_cell BK617.out 5).trans rfl; have hfz131_0 := blk_frozen BK617.out 0; have hfz131_1 := blk_frozen BK617.out 1; have hfz131_2 := blk_frozen BK617.out 2; have hfz131_3 := blk_frozen BK617.out 3; have hfz131_4 := blk_frozen BK617.out 4; have hfz131_5 := blk_frozen BK617.out 5))
           go_roundg k3
           case measure => have := HJ5.out; have := HJ70.out; have := HK3.out; omega
           case rel => exact ⟨(wrap64 (x13_3 + 1)), (by first | rfl | (simp; done) | (simp [*]; done)), H', ⟨by have := HJ5.out; have := HJ70.out; have := HK3.out; omega⟩, ⟨by (with_reducible repeat (first | apply Kd.S_alloc | apply Kd.S_drewN | apply Kd.S_drew)); exact Kd.S_mono (Kd.S_far (p := ⟨gb621, 5, none⟩) (Kd.S_far (p := ⟨gb621, 4, none⟩) (Kd.S_far (p := ⟨gb621, 3, none⟩) (Kd.S_far (p := ⟨gb621, 2, none⟩) (Kd.S_far (p := ⟨gb621, 1, none⟩) (Kd.S_far (p := ⟨gb621, 0, none⟩) (Kd.S_mono HO_11.out (fun k_ hk => (⟨hk, hk.2⟩ : _ ∧ k_ ≠ gb621))) (fun _ hk => hk.2) (.int .i64 ((rd_T61 t607 t619).f0))) (fun _ hk => hk.2) (.int .i64 ((rd_T61 t607 t619).f1))) (fun _ hk => hk.2) (.int .i64 ((rd_T61 t607 t619).f2))) (fun _ hk => hk.2) (.int .i64 ((rd_T61 t607 t619).f3))) (fun _ hk => hk.2) (.int .i64 ((rd_T61 t607 t619).f4))) (fun _ hk => hk.2) (.slice A620_5 ((rd_T61 t607 t619).f5).length c620_5)) (fun _ hk => hk.1.1.1)⟩, ⟨by (with_reducible repeat (first | apply Kd.R_alloc | apply Kd.R_drewN | apply Kd.R_drew)); exact Kd.R_mono (Kd.R_far (p := ⟨gb621, 5, none⟩) (Kd.R_far (p := ⟨gb621, 4, none⟩) (Kd.R_far (p := ⟨gb621, 3, none⟩) (Kd.R_far (p := ⟨gb621, 2, none⟩) (Kd.R_far (p := ⟨gb621, 1, none⟩) (Kd.R_far (p := ⟨gb621, 0, none⟩) (Kd.R_types HO_12.out BK621.out (by decide)) (fun _ hk => hk.2) (.int .i64 ((rd_T61 t607 t619).f0))) (fun _ hk => hk.2) (.int .i64 ((rd_T61 t607 t619).f1))) (fun _ hk => hk.2) (.int .i64 ((rd_T61 t607 t619).f2))) (fun _ hk => hk.2) (.int .i64 ((rd_T61 t607 t619).f3))) (fun _ hk => hk.2) (.int .i64 ((rd_T61 t607 t619).f4))) (fun _ hk => hk.2) (.slice A620_5 ((rd_T61 t607 t619).f5).length c620_5)) (fun _ hk => trivial)⟩, ⟨by repeat (first | (with_reducible first | exact HB.out | apply below_alloc | apply pw_below_drewN | apply below_drew1 | refine below_set ?_ GE617.out | refine below_set ?_ GE621.out) | exact HB.out)⟩⟩
          rw [if_pos c103] at H
          have c103b0 : (((rd_T61 t607 t615).f2) == ((rd_T61 t607 t619).f2)) = true := beq_iff_eq.mpr c103
          have c103b1 : (((rd_T61 t607 t615).f2) != ((rd_T61 t607 t619).f2)) = false := bne_eq_false_iff_eq.mpr c103
          clear c103
          by_cases c104 : ((rd_T61 t607 t615).f3) < ((rd_T61 t607 t619).f3)
          rotate_left
          ·
           rw [if_neg c104] at H
           have c104b0 : decide (((rd_T61 t607 t615).f3) < ((rd_T61 t607 t619).f3)) = false := decide_eq_false c104
           clear c104
           have H' := Aside0.mk H
           clear H
           obtain ⟨Ao114, co114, eo114⟩ := Kd.R_slice HO_12.out
           subst eo114
           have p614 : 0 ≤ ((ji83) : Int) := of_decide_eq_true (by first | (with_reducible assumption) | assumption)
           have q614 : (ji83) < (t610.length : Int) := of_decide_eq_true (by first | (with_reducible assumption) | assumption)
           obtain ⟨ad614, e614, hx614_0⟩ := Kd.at_int (Kd.R_reads' HO_12.out).2.2 (ji83) p614 q614
           cases e614
           replace p614 := eq_true p614
           replace q614 := eq_true q614
           go_wp2_with (first | ((with_reducible refine gate_callee (f := 18) rfl ?_); refine goesL_ (some 116) rfl rfl Try.func18 (by kernel_rfl) rfl #[.slice Ao73 t607.length co73, .int .i64 (rd t610 (ji83))] rfl (by (try simp only [List.map_toArray, List.map_cons, List.map_nil]); first | done | (simp only [hji83]; rfl) | rfl | (simp only [List.length_drop, List.length_take]; rfl)) ?_; (with_reducible refine (impl_FindTeam.calls _ _ t607 (rd t610 (ji83)) t615 _ ?side1 ?side2 A86.out).mono ?_); (case side1 => repeat (first | exact (Kd.S_reads' HO_11.out).2.2 | (with_reducible refine Kd.C_alloc ?_ _) | (with_reducible refine Kd.C_drewN ?_ _) | (with_reducible refine Kd.C_drew ?_))); (case side2 => exact (Kd.S_reads' HO_11.out).2.1); rintro e w115 ⟨rfl, hb⟩; refine ⟨_, rfl, ?_⟩; have n0_ := Aside0.mk (Kd.S_below (by (with_reducible repeat (first | apply Kd.S_alloc | apply Kd.S_drewN | apply Kd.S_drew)); exact HO_11.out) hb); have n1_ := Aside0.mk (Kd.R_below (by (with_reducible repeat (first | apply Kd.R_alloc | apply Kd.R_drewN | apply Kd.R_drew)); exact HO_12.out) hb); have n2_ := Aside0.mk (below_step (by repeat (first | (with_reducible first | exact HB.out | apply below_alloc | apply pw_below_drewN | apply below_drew1) | exact HB.out)) hb); clear HO_11; clear HO_12; clear HB; have HO_11 := n0_; have HO_12 := n1_; have HB := n2_; clear n0_ n1_ n2_; (try clear hb); (try clear hb2); (try clear hk); (try clear hi); have p616 : 0 ≤ (t615 : Int) := of_decide_eq_true (by first | (with_reducible assumption) | assumption); have q616 : t615 < (t607.length : Int) := of_decide_eq_true (by first | (with_reducible assumption) | assumption); obtain ⟨ad616, A616_5, c616_5, e616, hx616_0, hx616_1, hx616_2, hx616_3, hx616_4, hx616_5, hl616_5, hi616_5⟩ := at_T61 (Kd.S_reads' HO_11.out).2.2 t615 p616 q616; cases e616; obtain ⟨ce616, hce616, hMe616, hcc616⟩ := Kd.S_get HO_11.out z61 t615 p616 (by first | exact q616 | exact of_decide_eq_true (by first | (with_reducible assumption) | assumption) | (have e_ := (Kd.S_reads' HO_11.out).1; omega)); obtain ⟨ve616_5, rfl, ge616_5⟩ := k61_openM hMe616; have hv616_5 := hcc616 5 _ rfl; rw [add_field _ _ 5 (by omega)] at hv616_5; replace hv616_5 := Option.some.inj (hv616_5.symm.trans hx616_5); rw [hv616_5] at ge616_5; have HL616_5 := Aside0.mk (show Kd.R (Kd.int .i64) 3 _ _ _ _ ((rd_T61 t607 t615).f5) from ge616_5); clear hv616_5 ge616_5; clear hcc616 hce616; have HR616_5 := Aside0.mk hi616_5; have HC616_5 := Aside0.mk hl616_5; clear hi616_5 hl616_5; replace p616 := eq_true p616; replace q616 := eq_true q616) | ((with_reducible refine gate_dst (N := 14) rfl ?_); (try (refine gate_guard (by rfl) ?_; dsimp only)); refine box_event ?hg (N := 14) ?hd (cs := #[.int .i64 0, .int .i64 0, .int .i64 0, .int .i64 0, .int .i64 0, .slice none 0 0]) (t := 61) ?hr ?_; (case hd => rfl); (case hg => rfl); (case hr => first | (go_simp; done) | (go_simp; rfl)); intro gb617 hg w116 hbox hb; have n0_ := Aside0.mk (Kd.S_below (Kd.S_elderB (by (with_reducible repeat (first | apply Kd.S_alloc | apply Kd.S_drewN | apply Kd.S_drew)); exact HO_11.out) gb617 (Nat.le_of_eq hg.symm)) hb); have n1_ := Aside0.mk (Kd.R_below (by (with_reducible repeat (first | apply Kd.R_alloc | apply Kd.R_drewN | apply Kd.R_drew)); exact HO_12.out) hb); have n2_ := Aside0.mk (Kd.R_below (by (with_reducible repeat (first | apply Kd.R_alloc | apply Kd.R_drewN | apply Kd.R_drew)); exact HL616_5.out) hb); have n3_ := Aside0.mk (Kd.C_below (by repeat (first | (with_reducible exact HR616_5.out) | (with_reducible refine Kd.C_alloc ?_ _) | (with_reducible refine Kd.C_drewN ?_ _) | (with_reducible refine Kd.C_drew ?_) | exact HR616_5.out)) hb); have n4_ := Aside0.mk (below_step (by repeat (first | (with_reducible first | exact HB.out | apply below_alloc | apply pw_below_drewN | apply below_drew1) | exact HB.out)) hb); have n5_ := Aside0.mk (hbox); have n6_ := Aside0.mk ((by rw [hg]; exact (below_size (by repeat (first | (with_reducible first | exact HB.out | apply below_alloc | apply pw_below_drewN | apply below_drew1) | exact HB.out))) : w.heap.size ≤ gb617)); have n7_ := Aside0.mk ((by rw [hg]; exact (below_size (by repeat (first | (with_reducible first | exact HB.out | apply below_alloc | apply pw_below_drewN | apply below_drew1) | exact HB.out))) : w.heap.size ≤ gb617)); clear HO_11; clear HO_12; clear HL616_5; clear HR616_5; clear HB; have HO_11 := n0_; have HO_12 := n1_; have HL616_5 := n2_; have HR616_5 := n3_; have HB := n4_; have BK617 := n5_; have GW617 := n6_; have GE617 := n7_; clear n0_ n1_ n2_ n3_ n4_ n5_ n6_ n7_; clear hb hbox hg; have hcz117_0 : w116.cell? ⟨gb617, 0, none⟩ = some (.int .i64 0) := (blk_cell BK617.out 0).trans rfl; have hcz117_1 : w116.cell? ⟨gb617, 1, none⟩ = some (.int .i64 0) := (blk_cell BK617.out 1).trans rfl; have hcz117_2 : w116.cell? ⟨gb617, 2, none⟩ = some (.int .i64 0) := (blk_cell BK617.out 2).trans rfl; have hcz117_3 : w116.cell? ⟨gb617, 3, none⟩ = some (.int .i64 0) := (blk_cell BK617.out 3).trans rfl; have hcz117_4 : w116.cell? ⟨gb617, 4, none⟩ = some (.int .i64 0) := (blk_cell BK617.out 4).trans rfl; have hcz117_5 : w116.cell? ⟨gb617, 5, none⟩ = some (.slice none 0 0) := (blk_cell BK617.out 5).trans rfl; have hfz117_0 := blk_frozen BK617.out 0; have hfz117_1 := blk_frozen BK617.out 1; have hfz117_2 := blk_frozen BK617.out 2; have hfz117_3 := blk_frozen BK617.out 3; have hfz117_4 := blk_frozen BK617.out 4; have hfz117_5 := blk_frozen BK617.out 5; have p618 : 0 ≤ (x13_3 : Int) := of_decide_eq_true (by first | (with_reducible assumption) | assumption); have q618 : x13_3 < (t610.length : Int) := of_decide_eq_true (by first | (with_reducible assumption) | assumption); obtain ⟨ad618, e618, hx618_0⟩ := Kd.at_int (Kd.R_reads' HO_12.out).2.2 x13_3 p618 q618; obtain rfl : ad614 = ad618 := (by injection e618); have hn618_0 : ad614.block ≠ gb617 := Kd.own_blk (Kd.R_ne HO_12.out BK617.out (by decide)); have hn618_1 : ad614.block ≠ gb617 := Kd.own_blk (Kd.R_ne HO_12.out BK617.out (by decide)); have hn618_2 : ad614.block ≠ gb617 := Kd.own_blk (Kd.R_ne HO_12.out BK617.out (by decide)); have hn618_3 : ad614.block ≠ gb617 := Kd.own_blk (Kd.R_ne HO_12.out BK617.out (by decide)); have hn618_4 : ad614.block ≠ gb617 := Kd.own_blk (Kd.R_ne HO_12.out BK617.out (by decide)); have hn618_5 : ad614.block ≠ gb617 := Kd.own_blk (Kd.R_ne HO_12.out BK617.out (by decide)); replace hx618_0 := (cell_far (p := ⟨gb617, 0, none⟩) (by first | (rw [add_block]; exact hn618_0) | (show (Addr.add _ _).block ≠ _; rw [add_block]; exact hn618_0) | exact hn618_0) (.int .i64 ((rd_T61 t607 t615).f0))).trans hx618_0; replace hx618_0 := (cell_far (p := ⟨gb617, 1, none⟩) (by first | (rw [add_block]; exact hn618_1) | (show (Addr.add _ _).block ≠ _; rw [add_block]; exact hn618_1) | exact hn618_1) (.int .i64 ((rd_T61 t607 t615).f1))).trans hx618_0; replace hx618_0 := (cell_far (p := ⟨gb617, 2, none⟩) (by first | (rw [add_block]; exact hn618_2) | (show (Addr.add _ _).block ≠ _; rw [add_block]; exact hn618_2) | exact hn618_2) (.int .i64 ((rd_T61 t607 t615).f2))).trans hx618_0; replace hx618_0 := (cell_far (p := ⟨gb617, 3, none⟩) (by first | (rw [add_block]; exact hn618_3) | (show (Addr.add _ _).block ≠ _; rw [add_block]; exact hn618_3) | exact hn618_3) (.int .i64 ((rd_T61 t607 t615).f3))).trans hx618_0; replace hx618_0 := (cell_far (p := ⟨gb617, 4, none⟩) (by first | (rw [add_block]; exact hn618_4) | (show (Addr.add _ _).block ≠ _; rw [add_block]; exact hn618_4) | exact hn618_4) (.int .i64 ((rd_T61 t607 t615).f4))).trans hx618_0; replace hx618_0 := (cell_far (p := ⟨gb617, 5, none⟩) (by first | (rw [add_block]; exact hn618_5) | (show (Addr.add _ _).block ≠ _; rw [add_block]; exact hn618_5) | exact hn618_5) (.slice A616_5 ((rd_T61 t607 t615).f5).length c616_5)).trans hx618_0; clear hn618_0; clear hn618_1; clear hn618_2; clear hn618_3; clear hn618_4; clear hn618_5; replace p618 := eq_true p618; replace q618 := eq_true q618) | ((with_reducible refine gate_callee (f := 18) rfl ?_); refine goesL_ (some 125) rfl rfl Try.func18 (by kernel_rfl) rfl #[.slice (some ad616) t607.length co73, .int .i64 (rd t610 x13_3)] rfl (by (try simp only [List.map_toArray, List.map_cons, List.map_nil]); first | done | rfl | (simp only [List.length_drop, List.length_take]; rfl)) ?_; (with_reducible refine (impl_FindTeam.calls _ _ t607 (rd t610 x13_3) t619 _ ?side1 ?side2 A90.out).mono ?_); (case side1 => refine (Kd.S_reads' (e := 61) (base := w.heap.size) (ok := fun k_ => (some k_ ≠ (.slice (some ad614) t610.length co114 : Value).ownBlock ∧ k_ ≠ gb617)) (n := t607.length) (c := co73) ?_).2.2; exact (by (with_reducible repeat (first | apply Kd.S_alloc | apply Kd.S_drewN | apply Kd.S_drew)); exact (Kd.S_mono (Kd.S_far (p := ⟨gb617, 5, none⟩) (Kd.S_far (p := ⟨gb617, 4, none⟩) (Kd.S_far (p := ⟨gb617, 3, none⟩) (Kd.S_far (p := ⟨gb617, 2, none⟩) (Kd.S_far (p := ⟨gb617, 1, none⟩) (Kd.S_far (p := ⟨gb617, 0, none⟩) (Kd.S_mono HO_11.out (fun k_ hk => (⟨hk, hk.2⟩ : _ ∧ k_ ≠ gb617))) (fun _ hk => hk.2) (.int .i64 ((rd_T61 t607 t615).f0))) (fun _ hk => hk.2) (.int .i64 ((rd_T61 t607 t615).f1))) (fun _ hk => hk.2) (.int .i64 ((rd_T61 t607 t615).f2))) (fun _ hk => hk.2) (.int .i64 ((rd_T61 t607 t615).f3))) (fun _ hk => hk.2) (.int .i64 ((rd_T61 t607 t615).f4))) (fun _ hk => hk.2) (.slice A616_5 ((rd_T61 t607 t615).f5).length c616_5)) (fun _ h_ => h_.1)))); (case side2 => exact (Kd.S_reads' HO_11.out).2.1); rintro e w118 ⟨rfl, hb⟩; refine ⟨_, rfl, ?_⟩; have n0_ := Aside0.mk (Kd.S_below (by (with_reducible repeat (first | apply Kd.S_alloc | apply Kd.S_drewN | apply Kd.S_drew)); exact (Kd.S_mono (Kd.S_far (p := ⟨gb617, 5, none⟩) (Kd.S_far (p := ⟨gb617, 4, none⟩) (Kd.S_far (p := ⟨gb617, 3, none⟩) (Kd.S_far (p := ⟨gb617, 2, none⟩) (Kd.S_far (p := ⟨gb617, 1, none⟩) (Kd.S_far (p := ⟨gb617, 0, none⟩) (Kd.S_mono HO_11.out (fun k_ hk => (⟨hk, hk.2⟩ : _ ∧ k_ ≠ gb617))) (fun _ hk => hk.2) (.int .i64 ((rd_T61 t607 t615).f0))) (fun _ hk => hk.2) (.int .i64 ((rd_T61 t607 t615).f1))) (fun _ hk => hk.2) (.int .i64 ((rd_T61 t607 t615).f2))) (fun _ hk => hk.2) (.int .i64 ((rd_T61 t607 t615).f3))) (fun _ hk => hk.2) (.int .i64 ((rd_T61 t607 t615).f4))) (fun _ hk => hk.2) (.slice A616_5 ((rd_T61 t607 t615).f5).length c616_5)) (fun _ h_ => h_.1))) hb); have n1_ := Aside0.mk (Kd.R_below (by (with_reducible repeat (first | apply Kd.R_alloc | apply Kd.R_drewN | apply Kd.R_drew)); exact (Kd.R_mono (Kd.R_far (p := ⟨gb617, 5, none⟩) (Kd.R_far (p := ⟨gb617, 4, none⟩) (Kd.R_far (p := ⟨gb617, 3, none⟩) (Kd.R_far (p := ⟨gb617, 2, none⟩) (Kd.R_far (p := ⟨gb617, 1, none⟩) (Kd.R_far (p := ⟨gb617, 0, none⟩) (Kd.R_types HO_12.out BK617.out (by decide)) (fun _ hk => hk.2) (.int .i64 ((rd_T61 t607 t615).f0))) (fun _ hk => hk.2) (.int .i64 ((rd_T61 t607 t615).f1))) (fun _ hk => hk.2) (.int .i64 ((rd_T61 t607 t615).f2))) (fun _ hk => hk.2) (.int .i64 ((rd_T61 t607 t615).f3))) (fun _ hk => hk.2) (.int .i64 ((rd_T61 t607 t615).f4))) (fun _ hk => hk.2) (.slice A616_5 ((rd_T61 t607 t615).f5).length c616_5)) (fun _ h_ => h_.1))) hb); have n2_ := Aside0.mk (Kd.R_below (by (with_reducible repeat (first | apply Kd.R_alloc | apply Kd.R_drewN | apply Kd.R_drew)); exact (Kd.R_mono (Kd.R_far (p := ⟨gb617, 5, none⟩) (Kd.R_far (p := ⟨gb617, 4, none⟩) (Kd.R_far (p := ⟨gb617, 3, none⟩) (Kd.R_far (p := ⟨gb617, 2, none⟩) (Kd.R_far (p := ⟨gb617, 1, none⟩) (Kd.R_far (p := ⟨gb617, 0, none⟩) (Kd.R_types HL616_5.out BK617.out (by decide)) (fun _ hk => hk.2) (.int .i64 ((rd_T61 t607 t615).f0))) (fun _ hk => hk.2) (.int .i64 ((rd_T61 t607 t615).f1))) (fun _ hk => hk.2) (.int .i64 ((rd_T61 t607 t615).f2))) (fun _ hk => hk.2) (.int .i64 ((rd_T61 t607 t615).f3))) (fun _ hk => hk.2) (.int .i64 ((rd_T61 t607 t615).f4))) (fun _ hk => hk.2) (.slice A616_5 ((rd_T61 t607 t615).f5).length c616_5)) (fun _ h_ => h_.1))) hb); have n3_ := Aside0.mk (Kd.C_below ((Kd.R_reads' (by (with_reducible repeat (first | apply Kd.R_alloc | apply Kd.R_drewN | apply Kd.R_drew)); exact (Kd.R_mono (Kd.R_far (p := ⟨gb617, 5, none⟩) (Kd.R_far (p := ⟨gb617, 4, none⟩) (Kd.R_far (p := ⟨gb617, 3, none⟩) (Kd.R_far (p := ⟨gb617, 2, none⟩) (Kd.R_far (p := ⟨gb617, 1, none⟩) (Kd.R_far (p := ⟨gb617, 0, none⟩) (Kd.R_types HL616_5.out BK617.out (by decide)) (fun _ hk => hk.2) (.int .i64 ((rd_T61 t607 t615).f0))) (fun _ hk => hk.2) (.int .i64 ((rd_T61 t607 t615).f1))) (fun _ hk => hk.2) (.int .i64 ((rd_T61 t607 t615).f2))) (fun _ hk => hk.2) (.int .i64 ((rd_T61 t607 t615).f3))) (fun _ hk => hk.2) (.int .i64 ((rd_T61 t607 t615).f4))) (fun _ hk => hk.2) (.slice A616_5 ((rd_T61 t607 t615).f5).length c616_5)) (fun _ h_ => h_.1)))).2.2) hb); have n4_ := Aside0.mk (blk_below (g := gb617) (o := .cells #[.int .i64 ((rd_T61 t607 t615).f0), .int .i64 ((rd_T61 t607 t615).f1), .int .i64 ((rd_T61 t607 t615).f2), .int .i64 ((rd_T61 t607 t615).f3), .int .i64 ((rd_T61 t607 t615).f4), .slice A616_5 ((rd_T61 t607 t615).f5).length c616_5] 61 (0, 0)) (by (with_reducible repeat (first | refine blk_drewN ?_ _ | refine blk_drew ?_ | refine blk_alloc ?_ _)); refine blk_put (cs := #[.int .i64 ((rd_T61 t607 t615).f0), .int .i64 ((rd_T61 t607 t615).f1), .int .i64 ((rd_T61 t607 t615).f2), .int .i64 ((rd_T61 t607 t615).f3), .int .i64 ((rd_T61 t607 t615).f4), .slice none 0 0]) ?_ 5 _ rfl; (with_reducible repeat (first | refine blk_drewN ?_ _ | refine blk_drew ?_ | refine blk_alloc ?_ _)); refine blk_put (cs := #[.int .i64 ((rd_T61 t607 t615).f0), .int .i64 ((rd_T61 t607 t615).f1), .int .i64 ((rd_T61 t607 t615).f2), .int .i64 ((rd_T61 t607 t615).f3), .int .i64 0, .slice none 0 0]) ?_ 4 _ rfl; (with_reducible repeat (first | refine blk_drewN ?_ _ | refine blk_drew ?_ | refine blk_alloc ?_ _)); refine blk_put (cs := #[.int .i64 ((rd_T61 t607 t615).f0), .int .i64 ((rd_T61 t607 t615).f1), .int .i64 ((rd_T61 t607 t615).f2), .int .i64 0, .int .i64 0, .slice none 0 0]) ?_ 3 _ rfl; (with_reducible repeat (first | refine blk_drewN ?_ _ | refine blk_drew ?_ | refine blk_alloc ?_ _)); refine blk_put (cs := #[.int .i64 ((rd_T61 t607 t615).f0), .int .i64 ((rd_T61 t607 t615).f1), .int .i64 0, .int .i64 0, .int .i64 0, .slice none 0 0]) ?_ 2 _ rfl; (with_reducible repeat (first | refine blk_drewN ?_ _ | refine blk_drew ?_ | refine blk_alloc ?_ _)); refine blk_put (cs := #[.int .i64 ((rd_T61 t607 t615).f0), .int .i64 0, .int .i64 0, .int .i64 0, .int .i64 0, .slice none 0 0]) ?_ 1 _ rfl; (with_reducible repeat (first | refine blk_drewN ?_ _ | refine blk_drew ?_ | refine blk_alloc ?_ _)); refine blk_put (cs := #[.int .i64 0, .int .i64 0, .int .i64 0, .int .i64 0, .int .i64 0, .slice none 0 0]) ?_ 0 _ rfl; (with_reducible repeat (first | refine blk_drewN ?_ _ | refine blk_drew ?_ | refine blk_alloc ?_ _)); exact BK617.out) hb); have n5_ := Aside0.mk (below_step (by repeat (first | (with_reducible first | exact HB.out | apply below_alloc | apply pw_below_drewN | apply below_drew1 | refine below_set ?_ GE617.out) | exact HB.out)) hb); clear HO_11; clear HO_12; clear HL616_5; clear HR616_5; clear BK617; clear HB; have HO_11 := n0_; have HO_12 := n1_; have HL616_5 := n2_; have HR616_5 := n3_; have BK617 := n4_; have HB := n5_; clear n0_ n1_ n2_ n3_ n4_ n5_; (try clear hb); (try clear hb2); (try clear hk); (try clear hi); have p620 : 0 ≤ (t619 : Int) := of_decide_eq_true (by first | (with_reducible assumption) | assumption); have q620 : t619 < (t607.length : Int) := of_decide_eq_true (by first | (with_reducible assumption) | assumption); obtain ⟨ad620, A620_5, c620_5, e620, hx620_0, hx620_1, hx620_2, hx620_3, hx620_4, hx620_5, hl620_5, hi620_5⟩ := at_T61 (Kd.S_reads' HO_11.out).2.2 t619 p620 q620; obtain rfl : ad616 = ad620 := (by injection e620); obtain ⟨ce620, hce620, hMe620, hcc620⟩ := Kd.S_get HO_11.out z61 t619 p620 (by first | exact q620 | exact of_decide_eq_true (by first | (with_reducible assumption) | assumption) | (have e_ := (Kd.S_reads' HO_11.out).1; omega)); obtain ⟨ve620_5, rfl, ge620_5⟩ := k61_openM hMe620; have hv620_5 := hcc620 5 _ rfl; rw [add_field _ _ 5 (by omega)] at hv620_5; replace hv620_5 := Option.some.inj (hv620_5.symm.trans hx620_5); rw [hv620_5] at ge620_5; have HL620_5 := Aside0.mk (show Kd.R (Kd.int .i64) 3 _ _ _ _ ((rd_T61 t607 t619).f5) from ge620_5); clear hv620_5 ge620_5; clear hcc620 hce620; have HR620_5 := Aside0.mk hi620_5; have HC620_5 := Aside0.mk hl620_5; clear hi620_5 hl620_5; replace p620 := eq_true p620; replace q620 := eq_true q620) | ((with_reducible refine gate_dst (N := 15) rfl ?_); (try (refine gate_guard (by rfl) ?_; dsimp only)); refine box_event ?hg (N := 15) ?hd (cs := #[.int .i64 0, .int .i64 0, .int .i64 0, .int .i64 0, .int .i64 0, .slice none 0 0]) (t := 61) ?hr ?_; (case hd => rfl); (case hg => rfl); (case hr => first | (go_simp; done) | (go_simp; rfl)); intro gb621 hg w119 hbox hb; have n0_ := Aside0.mk (Kd.S_below (Kd.S_elderB (by (with_reducible repeat (first | apply Kd.S_alloc | apply Kd.S_drewN | apply Kd.S_drew)); exact HO_11.out) gb621 (Nat.le_of_eq hg.symm)) hb); have n1_ := Aside0.mk (Kd.R_below (by (with_reducible repeat (first | apply Kd.R_alloc | apply Kd.R_drewN | apply Kd.R_drew)); exact HO_12.out) hb); have n2_ := Aside0.mk (Kd.R_below (by (with_reducible repeat (first | apply Kd.R_alloc | apply Kd.R_drewN | apply Kd.R_drew)); exact HL616_5.out) hb); have n3_ := Aside0.mk (Kd.R_below (by (with_reducible repeat (first | apply Kd.R_alloc | apply Kd.R_drewN | apply Kd.R_drew)); exact HL620_5.out) hb); have n4_ := Aside0.mk (Kd.C_below (by repeat (first | (with_reducible exact HR616_5.out) | (with_reducible refine Kd.C_alloc ?_ _) | (with_reducible refine Kd.C_drewN ?_ _) | (with_reducible refine Kd.C_drew ?_) | exact HR616_5.out)) hb); have n5_ := Aside0.mk (blk_below (g := gb617) (o := .cells #[.int .i64 ((rd_T61 t607 t615).f0), .int .i64 ((rd_T61 t607 t615).f1), .int .i64 ((rd_T61 t607 t615).f2), .int .i64 ((rd_T61 t607 t615).f3), .int .i64 ((rd_T61 t607 t615).f4), .slice A616_5 ((rd_T61 t607 t615).f5).length c616_5] 61 (0, 0)) (by (with_reducible repeat (first | refine blk_drewN ?_ _ | refine blk_drew ?_ | refine blk_alloc ?_ _)); exact BK617.out) hb); have n6_ := Aside0.mk (Kd.C_below (by repeat (first | (with_reducible exact HR620_5.out) | (with_reducible refine Kd.C_alloc ?_ _) | (with_reducible refine Kd.C_drewN ?_ _) | (with_reducible refine Kd.C_drew ?_) | exact HR620_5.out)) hb); have n7_ := Aside0.mk (below_step (by repeat (first | (with_reducible first | exact HB.out | apply below_alloc | apply pw_below_drewN | apply below_drew1 | refine below_set ?_ GE617.out) | exact HB.out)) hb); have n8_ := Aside0.mk (hbox); have n9_ := Aside0.mk ((by rw [hg]; exact (below_size (by repeat (first | (with_reducible first | exact HB.out | apply below_alloc | apply pw_below_drewN | apply below_drew1 | refine below_set ?_ GE617.out) | exact HB.out))) : w.heap.size ≤ gb621)); have n10_ := Aside0.mk ((by rw [hg]; exact (below_size (by repeat (first | (with_reducible first | exact HB.out | apply below_alloc | apply pw_below_drewN | apply below_drew1 | refine below_set ?_ GE617.out) | exact HB.out))) : w.heap.size ≤ gb621)); have n11_ := Aside0.mk ((by rw [hg]; exact Nat.ne_of_lt (blk_lt (g := gb617) (o := .cells #[.int .i64 ((rd_T61 t607 t615).f0), .int .i64 ((rd_T61 t607 t615).f1), .int .i64 ((rd_T61 t607 t615).f2), .int .i64 ((rd_T61 t607 t615).f3), .int .i64 ((rd_T61 t607 t615).f4), .slice A616_5 ((rd_T61 t607 t615).f5).length c616_5] 61 (0, 0)) (by (with_reducible repeat (first | refine blk_drewN ?_ _ | refine blk_drew ?_ | refine blk_alloc ?_ _)); exact BK617.out)) : gb617 ≠ gb621)); have n12_ := Aside0.mk ((by rw [hg]; exact Nat.ne_of_gt (blk_lt (g := gb617) (o := .cells #[.int .i64 ((rd_T61 t607 t615).f0), .int .i64 ((rd_T61 t607 t615).f1), .int .i64 ((rd_T61 t607 t615).f2), .int .i64 ((rd_T61 t607 t615).f3), .int .i64 ((rd_T61 t607 t615).f4), .slice A616_5 ((rd_T61 t607 t615).f5).length c616_5] 61 (0, 0)) (by (with_reducible repeat (first | refine blk_drewN ?_ _ | refine blk_drew ?_ | refine blk_alloc ?_ _)); exact BK617.out)) : gb621 ≠ gb617)); clear HO_11; clear HO_12; clear HL616_5; clear HL620_5; clear HR616_5; clear BK617; clear HR620_5; clear HB; have HO_11 := n0_; have HO_12 := n1_; have HL616_5 := n2_; have HL620_5 := n3_; have HR616_5 := n4_; have BK617 := n5_; have HR620_5 := n6_; have HB := n7_; have BK621 := n8_; have GW621 := n9_; have GE621 := n10_; have NB617_621 := n11_; have NB621_617 := n12_; clear n0_ n1_ n2_ n3_ n4_ n5_ n6_ n7_ n8_ n9_ n10_ n11_ n12_; clear hb hbox hg; have hnb120 := NB621_617.out; have hnc120 := NB617_621.out; have hcz121_0 : w119.cell? ⟨gb621, 0, none⟩ = some (.int .i64 0) := (blk_cell BK621.out 0).trans rfl; have hcz121_1 : w119.cell? ⟨gb621, 1, none⟩ = some (.int .i64 0) := (blk_cell BK621.out 1).trans rfl; have hcz121_2 : w119.cell? ⟨gb621, 2, none⟩ = some (.int .i64 0) := (blk_cell BK621.out 2).trans rfl; have hcz121_3 : w119.cell? ⟨gb621, 3, none⟩ = some (.int .i64 0) := (blk_cell BK621.out 3).trans rfl; have hcz121_4 : w119.cell? ⟨gb621, 4, none⟩ = some (.int .i64 0) := (blk_cell BK621.out 4).trans rfl; have hcz121_5 : w119.cell? ⟨gb621, 5, none⟩ = some (.slice none 0 0) := (blk_cell BK621.out 5).trans rfl; have hfz121_0 := blk_frozen BK621.out 0; have hfz121_1 := blk_frozen BK621.out 1; have hfz121_2 := blk_frozen BK621.out 2; have hfz121_3 := blk_frozen BK621.out 3; have hfz121_4 := blk_frozen BK621.out 4; have hfz121_5 := blk_frozen BK621.out 5; have hcz122_0 : w119.cell? ⟨gb617, 0, none⟩ = some (.int .i64 ((rd_T61 t607 t615).f0)) := (blk_cell BK617.out 0).trans rfl; have hcz122_1 : w119.cell? ⟨gb617, 1, none⟩ = some (.int .i64 ((rd_T61 t607 t615).f1)) := (blk_cell BK617.out 1).trans rfl; have hcz122_2 : w119.cell? ⟨gb617, 2, none⟩ = some (.int .i64 ((rd_T61 t607 t615).f2)) := (blk_cell BK617.out 2).trans rfl; have hcz122_3 : w119.cell? ⟨gb617, 3, none⟩ = some (.int .i64 ((rd_T61 t607 t615).f3)) := (blk_cell BK617.out 3).trans rfl; have hcz122_4 : w119.cell? ⟨gb617, 4, none⟩ = some (.int .i64 ((rd_T61 t607 t615).f4)) := (blk_cell BK617.out 4).trans rfl; have hcz122_5 : w119.cell? ⟨gb617, 5, none⟩ = some (.slice A616_5 ((rd_T61 t607 t615).f5).length c616_5) := (blk_cell BK617.out 5).trans rfl; have hfz122_0 := blk_frozen BK617.out 0; have hfz122_1 := blk_frozen BK617.out 1; have hfz122_2 := blk_frozen BK617.out 2; have hfz122_3 := blk_frozen BK617.out 3; have hfz122_4 := blk_frozen BK617.out 4; have hfz122_5 := blk_frozen BK617.out 5))
           go_roundg k3
           case measure => have := HJ5.out; have := HJ70.out; have := HK3.out; omega
           case rel => exact ⟨(wrap64 (x13_3 + 1)), (by first | rfl | (simp; done) | (simp [*]; done)), H', ⟨by have := HJ5.out; have := HJ70.out; have := HK3.out; omega⟩, ⟨by (with_reducible repeat (first | apply Kd.S_alloc | apply Kd.S_drewN | apply Kd.S_drew)); exact Kd.S_mono (Kd.S_far (p := ⟨gb621, 5, none⟩) (Kd.S_far (p := ⟨gb621, 4, none⟩) (Kd.S_far (p := ⟨gb621, 3, none⟩) (Kd.S_far (p := ⟨gb621, 2, none⟩) (Kd.S_far (p := ⟨gb621, 1, none⟩) (Kd.S_far (p := ⟨gb621, 0, none⟩) (Kd.S_mono HO_11.out (fun k_ hk => (⟨hk, hk.2⟩ : _ ∧ k_ ≠ gb621))) (fun _ hk => hk.2) (.int .i64 ((rd_T61 t607 t619).f0))) (fun _ hk => hk.2) (.int .i64 ((rd_T61 t607 t619).f1))) (fun _ hk => hk.2) (.int .i64 ((rd_T61 t607 t619).f2))) (fun _ hk => hk.2) (.int .i64 ((rd_T61 t607 t619).f3))) (fun _ hk => hk.2) (.int .i64 ((rd_T61 t607 t619).f4))) (fun _ hk => hk.2) (.slice A620_5 ((rd_T61 t607 t619).f5).length c620_5)) (fun _ hk => hk.1.1.1)⟩, ⟨by (with_reducible repeat (first | apply Kd.R_alloc | apply Kd.R_drewN | apply Kd.R_drew)); exact Kd.R_mono (Kd.R_far (p := ⟨gb621, 5, none⟩) (Kd.R_far (p := ⟨gb621, 4, none⟩) (Kd.R_far (p := ⟨gb621, 3, none⟩) (Kd.R_far (p := ⟨gb621, 2, none⟩) (Kd.R_far (p := ⟨gb621, 1, none⟩) (Kd.R_far (p := ⟨gb621, 0, none⟩) (Kd.R_types HO_12.out BK621.out (by decide)) (fun _ hk => hk.2) (.int .i64 ((rd_T61 t607 t619).f0))) (fun _ hk => hk.2) (.int .i64 ((rd_T61 t607 t619).f1))) (fun _ hk => hk.2) (.int .i64 ((rd_T61 t607 t619).f2))) (fun _ hk => hk.2) (.int .i64 ((rd_T61 t607 t619).f3))) (fun _ hk => hk.2) (.int .i64 ((rd_T61 t607 t619).f4))) (fun _ hk => hk.2) (.slice A620_5 ((rd_T61 t607 t619).f5).length c620_5)) (fun _ hk => trivial)⟩, ⟨by repeat (first | (with_reducible first | exact HB.out | apply below_alloc | apply pw_below_drewN | apply below_drew1 | refine below_set ?_ GE617.out | refine below_set ?_ GE621.out) | exact HB.out)⟩⟩
          rw [if_pos c104] at H
          have c104b0 : decide (((rd_T61 t607 t615).f3) < ((rd_T61 t607 t619).f3)) = true := decide_eq_true c104
          clear c104
          obtain rfl := Option.some.inj H
          obtain ⟨Ao105, co105, eo105⟩ := Kd.R_slice HO_12.out
          subst eo105
          have p614 : 0 ≤ ((ji83) : Int) := of_decide_eq_true (by first | (with_reducible assumption) | assumption)
          have q614 : (ji83) < (t610.length : Int) := of_decide_eq_true (by first | (with_reducible assumption) | assumption)
          obtain ⟨ad614, e614, hx614_0⟩ := Kd.at_int (Kd.R_reads' HO_12.out).2.2 (ji83) p614 q614
          cases e614
          replace p614 := eq_true p614
          replace q614 := eq_true q614
          go_wp2_with (first | ((with_reducible refine gate_callee (f := 18) rfl ?_); refine goesL_ (some 116) rfl rfl Try.func18 (by kernel_rfl) rfl #[.slice Ao73 t607.length co73, .int .i64 (rd t610 (ji83))] rfl (by (try simp only [List.map_toArray, List.map_cons, List.map_nil]); first | done | (simp only [hji83]; rfl) | rfl | (simp only [List.length_drop, List.length_take]; rfl)) ?_; (with_reducible refine (impl_FindTeam.calls _ _ t607 (rd t610 (ji83)) t615 _ ?side1 ?side2 A86.out).mono ?_); (case side1 => repeat (first | exact (Kd.S_reads' HO_11.out).2.2 | (with_reducible refine Kd.C_alloc ?_ _) | (with_reducible refine Kd.C_drewN ?_ _) | (with_reducible refine Kd.C_drew ?_))); (case side2 => exact (Kd.S_reads' HO_11.out).2.1); rintro e w106 ⟨rfl, hb⟩; refine ⟨_, rfl, ?_⟩; have n0_ := Aside0.mk (Kd.S_below (by (with_reducible repeat (first | apply Kd.S_alloc | apply Kd.S_drewN | apply Kd.S_drew)); exact HO_11.out) hb); have n1_ := Aside0.mk (Kd.R_below (by (with_reducible repeat (first | apply Kd.R_alloc | apply Kd.R_drewN | apply Kd.R_drew)); exact HO_12.out) hb); have n2_ := Aside0.mk (below_step (by repeat (first | (with_reducible first | exact HB.out | apply below_alloc | apply pw_below_drewN | apply below_drew1) | exact HB.out)) hb); clear HO_11; clear HO_12; clear HB; have HO_11 := n0_; have HO_12 := n1_; have HB := n2_; clear n0_ n1_ n2_; (try clear hb); (try clear hb2); (try clear hk); (try clear hi); have p616 : 0 ≤ (t615 : Int) := of_decide_eq_true (by first | (with_reducible assumption) | assumption); have q616 : t615 < (t607.length : Int) := of_decide_eq_true (by first | (with_reducible assumption) | assumption); obtain ⟨ad616, A616_5, c616_5, e616, hx616_0, hx616_1, hx616_2, hx616_3, hx616_4, hx616_5, hl616_5, hi616_5⟩ := at_T61 (Kd.S_reads' HO_11.out).2.2 t615 p616 q616; cases e616; obtain ⟨ce616, hce616, hMe616, hcc616⟩ := Kd.S_get HO_11.out z61 t615 p616 (by first | exact q616 | exact of_decide_eq_true (by first | (with_reducible assumption) | assumption) | (have e_ := (Kd.S_reads' HO_11.out).1; omega)); obtain ⟨ve616_5, rfl, ge616_5⟩ := k61_openM hMe616; have hv616_5 := hcc616 5 _ rfl; rw [add_field _ _ 5 (by omega)] at hv616_5; replace hv616_5 := Option.some.inj (hv616_5.symm.trans hx616_5); rw [hv616_5] at ge616_5; have HL616_5 := Aside0.mk (show Kd.R (Kd.int .i64) 3 _ _ _ _ ((rd_T61 t607 t615).f5) from ge616_5); clear hv616_5 ge616_5; clear hcc616 hce616; have HR616_5 := Aside0.mk hi616_5; have HC616_5 := Aside0.mk hl616_5; clear hi616_5 hl616_5; replace p616 := eq_true p616; replace q616 := eq_true q616) | ((with_reducible refine gate_dst (N := 14) rfl ?_); (try (refine gate_guard (by rfl) ?_; dsimp only)); refine box_event ?hg (N := 14) ?hd (cs := #[.int .i64 0, .int .i64 0, .int .i64 0, .int .i64 0, .int .i64 0, .slice none 0 0]) (t := 61) ?hr ?_; (case hd => rfl); (case hg => rfl); (case hr => first | (go_simp; done) | (go_simp; rfl)); intro gb617 hg w107 hbox hb; have n0_ := Aside0.mk (Kd.S_below (Kd.S_elderB (by (with_reducible repeat (first | apply Kd.S_alloc | apply Kd.S_drewN | apply Kd.S_drew)); exact HO_11.out) gb617 (Nat.le_of_eq hg.symm)) hb); have n1_ := Aside0.mk (Kd.R_below (by (with_reducible repeat (first | apply Kd.R_alloc | apply Kd.R_drewN | apply Kd.R_drew)); exact HO_12.out) hb); have n2_ := Aside0.mk (Kd.R_below (by (with_reducible repeat (first | apply Kd.R_alloc | apply Kd.R_drewN | apply Kd.R_drew)); exact HL616_5.out) hb); have n3_ := Aside0.mk (Kd.C_below (by repeat (first | (with_reducible exact HR616_5.out) | (with_reducible refine Kd.C_alloc ?_ _) | (with_reducible refine Kd.C_drewN ?_ _) | (with_reducible refine Kd.C_drew ?_) | exact HR616_5.out)) hb); have n4_ := Aside0.mk (below_step (by repeat (first | (with_reducible first | exact HB.out | apply below_alloc | apply pw_below_drewN | apply below_drew1) | exact HB.out)) hb); have n5_ := Aside0.mk (hbox); have n6_ := Aside0.mk ((by rw [hg]; exact (below_size (by repeat (first | (with_reducible first | exact HB.out | apply below_alloc | apply pw_below_drewN | apply below_drew1) | exact HB.out))) : w.heap.size ≤ gb617)); have n7_ := Aside0.mk ((by rw [hg]; exact (below_size (by repeat (first | (with_reducible first | exact HB.out | apply below_alloc | apply pw_below_drewN | apply below_drew1) | exact HB.out))) : w.heap.size ≤ gb617)); clear HO_11; clear HO_12; clear HL616_5; clear HR616_5; clear HB; have HO_11 := n0_; have HO_12 := n1_; have HL616_5 := n2_; have HR616_5 := n3_; have HB := n4_; have BK617 := n5_; have GW617 := n6_; have GE617 := n7_; clear n0_ n1_ n2_ n3_ n4_ n5_ n6_ n7_; clear hb hbox hg; have hcz108_0 : w107.cell? ⟨gb617, 0, none⟩ = some (.int .i64 0) := (blk_cell BK617.out 0).trans rfl; have hcz108_1 : w107.cell? ⟨gb617, 1, none⟩ = some (.int .i64 0) := (blk_cell BK617.out 1).trans rfl; have hcz108_2 : w107.cell? ⟨gb617, 2, none⟩ = some (.int .i64 0) := (blk_cell BK617.out 2).trans rfl; have hcz108_3 : w107.cell? ⟨gb617, 3, none⟩ = some (.int .i64 0) := (blk_cell BK617.out 3).trans rfl; have hcz108_4 : w107.cell? ⟨gb617, 4, none⟩ = some (.int .i64 0) := (blk_cell BK617.out 4).trans rfl; have hcz108_5 : w107.cell? ⟨gb617, 5, none⟩ = some (.slice none 0 0) := (blk_cell BK617.out 5).trans rfl; have hfz108_0 := blk_frozen BK617.out 0; have hfz108_1 := blk_frozen BK617.out 1; have hfz108_2 := blk_frozen BK617.out 2; have hfz108_3 := blk_frozen BK617.out 3; have hfz108_4 := blk_frozen BK617.out 4; have hfz108_5 := blk_frozen BK617.out 5; have p618 : 0 ≤ (x13_3 : Int) := of_decide_eq_true (by first | (with_reducible assumption) | assumption); have q618 : x13_3 < (t610.length : Int) := of_decide_eq_true (by first | (with_reducible assumption) | assumption); obtain ⟨ad618, e618, hx618_0⟩ := Kd.at_int (Kd.R_reads' HO_12.out).2.2 x13_3 p618 q618; obtain rfl : ad614 = ad618 := (by injection e618); have hn618_0 : ad614.block ≠ gb617 := Kd.own_blk (Kd.R_ne HO_12.out BK617.out (by decide)); have hn618_1 : ad614.block ≠ gb617 := Kd.own_blk (Kd.R_ne HO_12.out BK617.out (by decide)); have hn618_2 : ad614.block ≠ gb617 := Kd.own_blk (Kd.R_ne HO_12.out BK617.out (by decide)); have hn618_3 : ad614.block ≠ gb617 := Kd.own_blk (Kd.R_ne HO_12.out BK617.out (by decide)); have hn618_4 : ad614.block ≠ gb617 := Kd.own_blk (Kd.R_ne HO_12.out BK617.out (by decide)); have hn618_5 : ad614.block ≠ gb617 := Kd.own_blk (Kd.R_ne HO_12.out BK617.out (by decide)); replace hx618_0 := (cell_far (p := ⟨gb617, 0, none⟩) (by first | (rw [add_block]; exact hn618_0) | (show (Addr.add _ _).block ≠ _; rw [add_block]; exact hn618_0) | exact hn618_0) (.int .i64 ((rd_T61 t607 t615).f0))).trans hx618_0; replace hx618_0 := (cell_far (p := ⟨gb617, 1, none⟩) (by first | (rw [add_block]; exact hn618_1) | (show (Addr.add _ _).block ≠ _; rw [add_block]; exact hn618_1) | exact hn618_1) (.int .i64 ((rd_T61 t607 t615).f1))).trans hx618_0; replace hx618_0 := (cell_far (p := ⟨gb617, 2, none⟩) (by first | (rw [add_block]; exact hn618_2) | (show (Addr.add _ _).block ≠ _; rw [add_block]; exact hn618_2) | exact hn618_2) (.int .i64 ((rd_T61 t607 t615).f2))).trans hx618_0; replace hx618_0 := (cell_far (p := ⟨gb617, 3, none⟩) (by first | (rw [add_block]; exact hn618_3) | (show (Addr.add _ _).block ≠ _; rw [add_block]; exact hn618_3) | exact hn618_3) (.int .i64 ((rd_T61 t607 t615).f3))).trans hx618_0; replace hx618_0 := (cell_far (p := ⟨gb617, 4, none⟩) (by first | (rw [add_block]; exact hn618_4) | (show (Addr.add _ _).block ≠ _; rw [add_block]; exact hn618_4) | exact hn618_4) (.int .i64 ((rd_T61 t607 t615).f4))).trans hx618_0; replace hx618_0 := (cell_far (p := ⟨gb617, 5, none⟩) (by first | (rw [add_block]; exact hn618_5) | (show (Addr.add _ _).block ≠ _; rw [add_block]; exact hn618_5) | exact hn618_5) (.slice A616_5 ((rd_T61 t607 t615).f5).length c616_5)).trans hx618_0; clear hn618_0; clear hn618_1; clear hn618_2; clear hn618_3; clear hn618_4; clear hn618_5; replace p618 := eq_true p618; replace q618 := eq_true q618) | ((with_reducible refine gate_callee (f := 18) rfl ?_); refine goesL_ (some 125) rfl rfl Try.func18 (by kernel_rfl) rfl #[.slice (some ad616) t607.length co73, .int .i64 (rd t610 x13_3)] rfl (by (try simp only [List.map_toArray, List.map_cons, List.map_nil]); first | done | rfl | (simp only [List.length_drop, List.length_take]; rfl)) ?_; (with_reducible refine (impl_FindTeam.calls _ _ t607 (rd t610 x13_3) t619 _ ?side1 ?side2 A90.out).mono ?_); (case side1 => refine (Kd.S_reads' (e := 61) (base := w.heap.size) (ok := fun k_ => (some k_ ≠ (.slice (some ad614) t610.length co105 : Value).ownBlock ∧ k_ ≠ gb617)) (n := t607.length) (c := co73) ?_).2.2; exact (by (with_reducible repeat (first | apply Kd.S_alloc | apply Kd.S_drewN | apply Kd.S_drew)); exact (Kd.S_mono (Kd.S_far (p := ⟨gb617, 5, none⟩) (Kd.S_far (p := ⟨gb617, 4, none⟩) (Kd.S_far (p := ⟨gb617, 3, none⟩) (Kd.S_far (p := ⟨gb617, 2, none⟩) (Kd.S_far (p := ⟨gb617, 1, none⟩) (Kd.S_far (p := ⟨gb617, 0, none⟩) (Kd.S_mono HO_11.out (fun k_ hk => (⟨hk, hk.2⟩ : _ ∧ k_ ≠ gb617))) (fun _ hk => hk.2) (.int .i64 ((rd_T61 t607 t615).f0))) (fun _ hk => hk.2) (.int .i64 ((rd_T61 t607 t615).f1))) (fun _ hk => hk.2) (.int .i64 ((rd_T61 t607 t615).f2))) (fun _ hk => hk.2) (.int .i64 ((rd_T61 t607 t615).f3))) (fun _ hk => hk.2) (.int .i64 ((rd_T61 t607 t615).f4))) (fun _ hk => hk.2) (.slice A616_5 ((rd_T61 t607 t615).f5).length c616_5)) (fun _ h_ => h_.1)))); (case side2 => exact (Kd.S_reads' HO_11.out).2.1); rintro e w109 ⟨rfl, hb⟩; refine ⟨_, rfl, ?_⟩; have n0_ := Aside0.mk (Kd.S_below (by (with_reducible repeat (first | apply Kd.S_alloc | apply Kd.S_drewN | apply Kd.S_drew)); exact (Kd.S_mono (Kd.S_far (p := ⟨gb617, 5, none⟩) (Kd.S_far (p := ⟨gb617, 4, none⟩) (Kd.S_far (p := ⟨gb617, 3, none⟩) (Kd.S_far (p := ⟨gb617, 2, none⟩) (Kd.S_far (p := ⟨gb617, 1, none⟩) (Kd.S_far (p := ⟨gb617, 0, none⟩) (Kd.S_mono HO_11.out (fun k_ hk => (⟨hk, hk.2⟩ : _ ∧ k_ ≠ gb617))) (fun _ hk => hk.2) (.int .i64 ((rd_T61 t607 t615).f0))) (fun _ hk => hk.2) (.int .i64 ((rd_T61 t607 t615).f1))) (fun _ hk => hk.2) (.int .i64 ((rd_T61 t607 t615).f2))) (fun _ hk => hk.2) (.int .i64 ((rd_T61 t607 t615).f3))) (fun _ hk => hk.2) (.int .i64 ((rd_T61 t607 t615).f4))) (fun _ hk => hk.2) (.slice A616_5 ((rd_T61 t607 t615).f5).length c616_5)) (fun _ h_ => h_.1))) hb); have n1_ := Aside0.mk (Kd.R_below (by (with_reducible repeat (first | apply Kd.R_alloc | apply Kd.R_drewN | apply Kd.R_drew)); exact (Kd.R_mono (Kd.R_far (p := ⟨gb617, 5, none⟩) (Kd.R_far (p := ⟨gb617, 4, none⟩) (Kd.R_far (p := ⟨gb617, 3, none⟩) (Kd.R_far (p := ⟨gb617, 2, none⟩) (Kd.R_far (p := ⟨gb617, 1, none⟩) (Kd.R_far (p := ⟨gb617, 0, none⟩) (Kd.R_types HO_12.out BK617.out (by decide)) (fun _ hk => hk.2) (.int .i64 ((rd_T61 t607 t615).f0))) (fun _ hk => hk.2) (.int .i64 ((rd_T61 t607 t615).f1))) (fun _ hk => hk.2) (.int .i64 ((rd_T61 t607 t615).f2))) (fun _ hk => hk.2) (.int .i64 ((rd_T61 t607 t615).f3))) (fun _ hk => hk.2) (.int .i64 ((rd_T61 t607 t615).f4))) (fun _ hk => hk.2) (.slice A616_5 ((rd_T61 t607 t615).f5).length c616_5)) (fun _ h_ => h_.1))) hb); have n2_ := Aside0.mk (Kd.R_below (by (with_reducible repeat (first | apply Kd.R_alloc | apply Kd.R_drewN | apply Kd.R_drew)); exact (Kd.R_mono (Kd.R_far (p := ⟨gb617, 5, none⟩) (Kd.R_far (p := ⟨gb617, 4, none⟩) (Kd.R_far (p := ⟨gb617, 3, none⟩) (Kd.R_far (p := ⟨gb617, 2, none⟩) (Kd.R_far (p := ⟨gb617, 1, none⟩) (Kd.R_far (p := ⟨gb617, 0, none⟩) (Kd.R_types HL616_5.out BK617.out (by decide)) (fun _ hk => hk.2) (.int .i64 ((rd_T61 t607 t615).f0))) (fun _ hk => hk.2) (.int .i64 ((rd_T61 t607 t615).f1))) (fun _ hk => hk.2) (.int .i64 ((rd_T61 t607 t615).f2))) (fun _ hk => hk.2) (.int .i64 ((rd_T61 t607 t615).f3))) (fun _ hk => hk.2) (.int .i64 ((rd_T61 t607 t615).f4))) (fun _ hk => hk.2) (.slice A616_5 ((rd_T61 t607 t615).f5).length c616_5)) (fun _ h_ => h_.1))) hb); have n3_ := Aside0.mk (Kd.C_below ((Kd.R_reads' (by (with_reducible repeat (first | apply Kd.R_alloc | apply Kd.R_drewN | apply Kd.R_drew)); exact (Kd.R_mono (Kd.R_far (p := ⟨gb617, 5, none⟩) (Kd.R_far (p := ⟨gb617, 4, none⟩) (Kd.R_far (p := ⟨gb617, 3, none⟩) (Kd.R_far (p := ⟨gb617, 2, none⟩) (Kd.R_far (p := ⟨gb617, 1, none⟩) (Kd.R_far (p := ⟨gb617, 0, none⟩) (Kd.R_types HL616_5.out BK617.out (by decide)) (fun _ hk => hk.2) (.int .i64 ((rd_T61 t607 t615).f0))) (fun _ hk => hk.2) (.int .i64 ((rd_T61 t607 t615).f1))) (fun _ hk => hk.2) (.int .i64 ((rd_T61 t607 t615).f2))) (fun _ hk => hk.2) (.int .i64 ((rd_T61 t607 t615).f3))) (fun _ hk => hk.2) (.int .i64 ((rd_T61 t607 t615).f4))) (fun _ hk => hk.2) (.slice A616_5 ((rd_T61 t607 t615).f5).length c616_5)) (fun _ h_ => h_.1)))).2.2) hb); have n4_ := Aside0.mk (blk_below (g := gb617) (o := .cells #[.int .i64 ((rd_T61 t607 t615).f0), .int .i64 ((rd_T61 t607 t615).f1), .int .i64 ((rd_T61 t607 t615).f2), .int .i64 ((rd_T61 t607 t615).f3), .int .i64 ((rd_T61 t607 t615).f4), .slice A616_5 ((rd_T61 t607 t615).f5).length c616_5] 61 (0, 0)) (by (with_reducible repeat (first | refine blk_drewN ?_ _ | refine blk_drew ?_ | refine blk_alloc ?_ _)); refine blk_put (cs := #[.int .i64 ((rd_T61 t607 t615).f0), .int .i64 ((rd_T61 t607 t615).f1), .int .i64 ((rd_T61 t607 t615).f2), .int .i64 ((rd_T61 t607 t615).f3), .int .i64 ((rd_T61 t607 t615).f4), .slice none 0 0]) ?_ 5 _ rfl; (with_reducible repeat (first | refine blk_drewN ?_ _ | refine blk_drew ?_ | refine blk_alloc ?_ _)); refine blk_put (cs := #[.int .i64 ((rd_T61 t607 t615).f0), .int .i64 ((rd_T61 t607 t615).f1), .int .i64 ((rd_T61 t607 t615).f2), .int .i64 ((rd_T61 t607 t615).f3), .int .i64 0, .slice none 0 0]) ?_ 4 _ rfl; (with_reducible repeat (first | refine blk_drewN ?_ _ | refine blk_drew ?_ | refine blk_alloc ?_ _)); refine blk_put (cs := #[.int .i64 ((rd_T61 t607 t615).f0), .int .i64 ((rd_T61 t607 t615).f1), .int .i64 ((rd_T61 t607 t615).f2), .int .i64 0, .int .i64 0, .slice none 0 0]) ?_ 3 _ rfl; (with_reducible repeat (first | refine blk_drewN ?_ _ | refine blk_drew ?_ | refine blk_alloc ?_ _)); refine blk_put (cs := #[.int .i64 ((rd_T61 t607 t615).f0), .int .i64 ((rd_T61 t607 t615).f1), .int .i64 0, .int .i64 0, .int .i64 0, .slice none 0 0]) ?_ 2 _ rfl; (with_reducible repeat (first | refine blk_drewN ?_ _ | refine blk_drew ?_ | refine blk_alloc ?_ _)); refine blk_put (cs := #[.int .i64 ((rd_T61 t607 t615).f0), .int .i64 0, .int .i64 0, .int .i64 0, .int .i64 0, .slice none 0 0]) ?_ 1 _ rfl; (with_reducible repeat (first | refine blk_drewN ?_ _ | refine blk_drew ?_ | refine blk_alloc ?_ _)); refine blk_put (cs := #[.int .i64 0, .int .i64 0, .int .i64 0, .int .i64 0, .int .i64 0, .slice none 0 0]) ?_ 0 _ rfl; (with_reducible repeat (first | refine blk_drewN ?_ _ | refine blk_drew ?_ | refine blk_alloc ?_ _)); exact BK617.out) hb); have n5_ := Aside0.mk (below_step (by repeat (first | (with_reducible first | exact HB.out | apply below_alloc | apply pw_below_drewN | apply below_drew1 | refine below_set ?_ GE617.out) | exact HB.out)) hb); clear HO_11; clear HO_12; clear HL616_5; clear HR616_5; clear BK617; clear HB; have HO_11 := n0_; have HO_12 := n1_; have HL616_5 := n2_; have HR616_5 := n3_; have BK617 := n4_; have HB := n5_; clear n0_ n1_ n2_ n3_ n4_ n5_; (try clear hb); (try clear hb2); (try clear hk); (try clear hi); have p620 : 0 ≤ (t619 : Int) := of_decide_eq_true (by first | (with_reducible assumption) | assumption); have q620 : t619 < (t607.length : Int) := of_decide_eq_true (by first | (with_reducible assumption) | assumption); obtain ⟨ad620, A620_5, c620_5, e620, hx620_0, hx620_1, hx620_2, hx620_3, hx620_4, hx620_5, hl620_5, hi620_5⟩ := at_T61 (Kd.S_reads' HO_11.out).2.2 t619 p620 q620; obtain rfl : ad616 = ad620 := (by injection e620); obtain ⟨ce620, hce620, hMe620, hcc620⟩ := Kd.S_get HO_11.out z61 t619 p620 (by first | exact q620 | exact of_decide_eq_true (by first | (with_reducible assumption) | assumption) | (have e_ := (Kd.S_reads' HO_11.out).1; omega)); obtain ⟨ve620_5, rfl, ge620_5⟩ := k61_openM hMe620; have hv620_5 := hcc620 5 _ rfl; rw [add_field _ _ 5 (by omega)] at hv620_5; replace hv620_5 := Option.some.inj (hv620_5.symm.trans hx620_5); rw [hv620_5] at ge620_5; have HL620_5 := Aside0.mk (show Kd.R (Kd.int .i64) 3 _ _ _ _ ((rd_T61 t607 t619).f5) from ge620_5); clear hv620_5 ge620_5; clear hcc620 hce620; have HR620_5 := Aside0.mk hi620_5; have HC620_5 := Aside0.mk hl620_5; clear hi620_5 hl620_5; replace p620 := eq_true p620; replace q620 := eq_true q620) | ((with_reducible refine gate_dst (N := 15) rfl ?_); (try (refine gate_guard (by rfl) ?_; dsimp only)); refine box_event ?hg (N := 15) ?hd (cs := #[.int .i64 0, .int .i64 0, .int .i64 0, .int .i64 0, .int .i64 0, .slice none 0 0]) (t := 61) ?hr ?_; (case hd => rfl); (case hg => rfl); (case hr => first | (go_simp; done) | (go_simp; rfl)); intro gb621 hg w110 hbox hb; have n0_ := Aside0.mk (Kd.S_below (Kd.S_elderB (by (with_reducible repeat (first | apply Kd.S_alloc | apply Kd.S_drewN | apply Kd.S_drew)); exact HO_11.out) gb621 (Nat.le_of_eq hg.symm)) hb); have n1_ := Aside0.mk (Kd.R_below (by (with_reducible repeat (first | apply Kd.R_alloc | apply Kd.R_drewN | apply Kd.R_drew)); exact HO_12.out) hb); have n2_ := Aside0.mk (Kd.R_below (by (with_reducible repeat (first | apply Kd.R_alloc | apply Kd.R_drewN | apply Kd.R_drew)); exact HL616_5.out) hb); have n3_ := Aside0.mk (Kd.R_below (by (with_reducible repeat (first | apply Kd.R_alloc | apply Kd.R_drewN | apply Kd.R_drew)); exact HL620_5.out) hb); have n4_ := Aside0.mk (Kd.C_below (by repeat (first | (with_reducible exact HR616_5.out) | (with_reducible refine Kd.C_alloc ?_ _) | (with_reducible refine Kd.C_drewN ?_ _) | (with_reducible refine Kd.C_drew ?_) | exact HR616_5.out)) hb); have n5_ := Aside0.mk (blk_below (g := gb617) (o := .cells #[.int .i64 ((rd_T61 t607 t615).f0), .int .i64 ((rd_T61 t607 t615).f1), .int .i64 ((rd_T61 t607 t615).f2), .int .i64 ((rd_T61 t607 t615).f3), .int .i64 ((rd_T61 t607 t615).f4), .slice A616_5 ((rd_T61 t607 t615).f5).length c616_5] 61 (0, 0)) (by (with_reducible repeat (first | refine blk_drewN ?_ _ | refine blk_drew ?_ | refine blk_alloc ?_ _)); exact BK617.out) hb); have n6_ := Aside0.mk (Kd.C_below (by repeat (first | (with_reducible exact HR620_5.out) | (with_reducible refine Kd.C_alloc ?_ _) | (with_reducible refine Kd.C_drewN ?_ _) | (with_reducible refine Kd.C_drew ?_) | exact HR620_5.out)) hb); have n7_ := Aside0.mk (below_step (by repeat (first | (with_reducible first | exact HB.out | apply below_alloc | apply pw_below_drewN | apply below_drew1 | refine below_set ?_ GE617.out) | exact HB.out)) hb); have n8_ := Aside0.mk (hbox); have n9_ := Aside0.mk ((by rw [hg]; exact (below_size (by repeat (first | (with_reducible first | exact HB.out | apply below_alloc | apply pw_below_drewN | apply below_drew1 | refine below_set ?_ GE617.out) | exact HB.out))) : w.heap.size ≤ gb621)); have n10_ := Aside0.mk ((by rw [hg]; exact (below_size (by repeat (first | (with_reducible first | exact HB.out | apply below_alloc | apply pw_below_drewN | apply below_drew1 | refine below_set ?_ GE617.out) | exact HB.out))) : w.heap.size ≤ gb621)); have n11_ := Aside0.mk ((by rw [hg]; exact Nat.ne_of_lt (blk_lt (g := gb617) (o := .cells #[.int .i64 ((rd_T61 t607 t615).f0), .int .i64 ((rd_T61 t607 t615).f1), .int .i64 ((rd_T61 t607 t615).f2), .int .i64 ((rd_T61 t607 t615).f3), .int .i64 ((rd_T61 t607 t615).f4), .slice A616_5 ((rd_T61 t607 t615).f5).length c616_5] 61 (0, 0)) (by (with_reducible repeat (first | refine blk_drewN ?_ _ | refine blk_drew ?_ | refine blk_alloc ?_ _)); exact BK617.out)) : gb617 ≠ gb621)); have n12_ := Aside0.mk ((by rw [hg]; exact Nat.ne_of_gt (blk_lt (g := gb617) (o := .cells #[.int .i64 ((rd_T61 t607 t615).f0), .int .i64 ((rd_T61 t607 t615).f1), .int .i64 ((rd_T61 t607 t615).f2), .int .i64 ((rd_T61 t607 t615).f3), .int .i64 ((rd_T61 t607 t615).f4), .slice A616_5 ((rd_T61 t607 t615).f5).length c616_5] 61 (0, 0)) (by (with_reducible repeat (first | refine blk_drewN ?_ _ | refine blk_drew ?_ | refine blk_alloc ?_ _)); exact BK617.out)) : gb621 ≠ gb617)); clear HO_11; clear HO_12; clear HL616_5; clear HL620_5; clear HR616_5; clear BK617; clear HR620_5; clear HB; have HO_11 := n0_; have HO_12 := n1_; have HL616_5 := n2_; have HL620_5 := n3_; have HR616_5 := n4_; have BK617 := n5_; have HR620_5 := n6_; have HB := n7_; have BK621 := n8_; have GW621 := n9_; have GE621 := n10_; have NB617_621 := n11_; have NB621_617 := n12_; clear n0_ n1_ n2_ n3_ n4_ n5_ n6_ n7_ n8_ n9_ n10_ n11_ n12_; clear hb hbox hg; have hnb111 := NB621_617.out; have hnc111 := NB617_621.out; have hcz112_0 : w110.cell? ⟨gb621, 0, none⟩ = some (.int .i64 0) := (blk_cell BK621.out 0).trans rfl; have hcz112_1 : w110.cell? ⟨gb621, 1, none⟩ = some (.int .i64 0) := (blk_cell BK621.out 1).trans rfl; have hcz112_2 : w110.cell? ⟨gb621, 2, none⟩ = some (.int .i64 0) := (blk_cell BK621.out 2).trans rfl; have hcz112_3 : w110.cell? ⟨gb621, 3, none⟩ = some (.int .i64 0) := (blk_cell BK621.out 3).trans rfl; have hcz112_4 : w110.cell? ⟨gb621, 4, none⟩ = some (.int .i64 0) := (blk_cell BK621.out 4).trans rfl; have hcz112_5 : w110.cell? ⟨gb621, 5, none⟩ = some (.slice none 0 0) := (blk_cell BK621.out 5).trans rfl; have hfz112_0 := blk_frozen BK621.out 0; have hfz112_1 := blk_frozen BK621.out 1; have hfz112_2 := blk_frozen BK621.out 2; have hfz112_3 := blk_frozen BK621.out 3; have hfz112_4 := blk_frozen BK621.out 4; have hfz112_5 := blk_frozen BK621.out 5; have hcz113_0 : w110.cell? ⟨gb617, 0, none⟩ = some (.int .i64 ((rd_T61 t607 t615).f0)) := (blk_cell BK617.out 0).trans rfl; have hcz113_1 : w110.cell? ⟨gb617, 1, none⟩ = some (.int .i64 ((rd_T61 t607 t615).f1)) := (blk_cell BK617.out 1).trans rfl; have hcz113_2 : w110.cell? ⟨gb617, 2, none⟩ = some (.int .i64 ((rd_T61 t607 t615).f2)) := (blk_cell BK617.out 2).trans rfl; have hcz113_3 : w110.cell? ⟨gb617, 3, none⟩ = some (.int .i64 ((rd_T61 t607 t615).f3)) := (blk_cell BK617.out 3).trans rfl; have hcz113_4 : w110.cell? ⟨gb617, 4, none⟩ = some (.int .i64 ((rd_T61 t607 t615).f4)) := (blk_cell BK617.out 4).trans rfl; have hcz113_5 : w110.cell? ⟨gb617, 5, none⟩ = some (.slice A616_5 ((rd_T61 t607 t615).f5).length c616_5) := (blk_cell BK617.out 5).trans rfl; have hfz113_0 := blk_frozen BK617.out 0; have hfz113_1 := blk_frozen BK617.out 1; have hfz113_2 := blk_frozen BK617.out 2; have hfz113_3 := blk_frozen BK617.out 3; have hfz113_4 := blk_frozen BK617.out 4; have hfz113_5 := blk_frozen BK617.out 5))
          all_goals (go_ret; exact ⟨by first | rfl | (simp [errW_none, errW_some] <;> rfl) | (simp only [← hji83]; first | rfl | (simp [errW_none, errW_some] <;> rfl)) | (simp [*, errW_none, errW_some] <;> rfl), by repeat (first | (with_reducible first | exact HB.out | apply below_alloc | apply pw_below_drewN | apply below_drew1 | refine below_set ?_ GE617.out | refine below_set ?_ GE621.out) | exact HB.out)⟩)
         rw [if_pos c93] at H
         have c93b0 : decide (((rd_T61 t607 t615).f2) < ((rd_T61 t607 t619).f2)) = true := decide_eq_true c93
         clear c93
         obtain rfl := Option.some.inj H
         obtain ⟨Ao94, co94, eo94⟩ := Kd.R_slice HO_12.out
         subst eo94
         have p614 : 0 ≤ ((ji83) : Int) := of_decide_eq_true (by first | (with_reducible assumption) | assumption)
         have q614 : (ji83) < (t610.length : Int) := of_decide_eq_true (by first | (with_reducible assumption) | assumption)
         obtain ⟨ad614, e614, hx614_0⟩ := Kd.at_int (Kd.R_reads' HO_12.out).2.2 (ji83) p614 q614
         cases e614
         replace p614 := eq_true p614
         replace q614 := eq_true q614
         go_wp2_with (first | ((with_reducible refine gate_callee (f := 18) rfl ?_); refine goesL_ (some 116) rfl rfl Try.func18 (by kernel_rfl) rfl #[.slice Ao73 t607.length co73, .int .i64 (rd t610 (ji83))] rfl (by (try simp only [List.map_toArray, List.map_cons, List.map_nil]); first | done | (simp only [hji83]; rfl) | rfl | (simp only [List.length_drop, List.length_take]; rfl)) ?_; (with_reducible refine (impl_FindTeam.calls _ _ t607 (rd t610 (ji83)) t615 _ ?side1 ?side2 A86.out).mono ?_); (case side1 => repeat (first | exact (Kd.S_reads' HO_11.out).2.2 | (with_reducible refine Kd.C_alloc ?_ _) | (with_reducible refine Kd.C_drewN ?_ _) | (with_reducible refine Kd.C_drew ?_))); (case side2 => exact (Kd.S_reads' HO_11.out).2.1); rintro e w95 ⟨rfl, hb⟩; refine ⟨_, rfl, ?_⟩; have n0_ := Aside0.mk (Kd.S_below (by (with_reducible repeat (first | apply Kd.S_alloc | apply Kd.S_drewN | apply Kd.S_drew)); exact HO_11.out) hb); have n1_ := Aside0.mk (Kd.R_below (by (with_reducible repeat (first | apply Kd.R_alloc | apply Kd.R_drewN | apply Kd.R_drew)); exact HO_12.out) hb); have n2_ := Aside0.mk (below_step (by repeat (first | (with_reducible first | exact HB.out | apply below_alloc | apply pw_below_drewN | apply below_drew1) | exact HB.out)) hb); clear HO_11; clear HO_12; clear HB; have HO_11 := n0_; have HO_12 := n1_; have HB := n2_; clear n0_ n1_ n2_; (try clear hb); (try clear hb2); (try clear hk); (try clear hi); have p616 : 0 ≤ (t615 : Int) := of_decide_eq_true (by first | (with_reducible assumption) | assumption); have q616 : t615 < (t607.length : Int) := of_decide_eq_true (by first | (with_reducible assumption) | assumption); obtain ⟨ad616, A616_5, c616_5, e616, hx616_0, hx616_1, hx616_2, hx616_3, hx616_4, hx616_5, hl616_5, hi616_5⟩ := at_T61 (Kd.S_reads' HO_11.out).2.2 t615 p616 q616; cases e616; obtain ⟨ce616, hce616, hMe616, hcc616⟩ := Kd.S_get HO_11.out z61 t615 p616 (by first | exact q616 | exact of_decide_eq_true (by first | (with_reducible assumption) | assumption) | (have e_ := (Kd.S_reads' HO_11.out).1; omega)); obtain ⟨ve616_5, rfl, ge616_5⟩ := k61_openM hMe616; have hv616_5 := hcc616 5 _ rfl; rw [add_field _ _ 5 (by omega)] at hv616_5; replace hv616_5 := Option.some.inj (hv616_5.symm.trans hx616_5); rw [hv616_5] at ge616_5; have HL616_5 := Aside0.mk (show Kd.R (Kd.int .i64) 3 _ _ _ _ ((rd_T61 t607 t615).f5) from ge616_5); clear hv616_5 ge616_5; clear hcc616 hce616; have HR616_5 := Aside0.mk hi616_5; have HC616_5 := Aside0.mk hl616_5; clear hi616_5 hl616_5; replace p616 := eq_true p616; replace q616 := eq_true q616) | ((with_reducible refine gate_dst (N := 14) rfl ?_); (try (refine gate_guard (by rfl) ?_; dsimp only)); refine box_event ?hg (N := 14) ?hd (cs := #[.int .i64 0, .int .i64 0, .int .i64 0, .int .i64 0, .int .i64 0, .slice none 0 0]) (t := 61) ?hr ?_; (case hd => rfl); (case hg => rfl); (case hr => first | (go_simp; done) | (go_simp; rfl)); intro gb617 hg w96 hbox hb; have n0_ := Aside0.mk (Kd.S_below (Kd.S_elderB (by (with_reducible repeat (first | apply Kd.S_alloc | apply Kd.S_drewN | apply Kd.S_drew)); exact HO_11.out) gb617 (Nat.le_of_eq hg.symm)) hb); have n1_ := Aside0.mk (Kd.R_below (by (with_reducible repeat (first | apply Kd.R_alloc | apply Kd.R_drewN | apply Kd.R_drew)); exact HO_12.out) hb); have n2_ := Aside0.mk (Kd.R_below (by (with_reducible repeat (first | apply Kd.R_alloc | apply Kd.R_drewN | apply Kd.R_drew)); exact HL616_5.out) hb); have n3_ := Aside0.mk (Kd.C_below (by repeat (first | (with_reducible exact HR616_5.out) | (with_reducible refine Kd.C_alloc ?_ _) | (with_reducible refine Kd.C_drewN ?_ _) | (with_reducible refine Kd.C_drew ?_) | exact HR616_5.out)) hb); have n4_ := Aside0.mk (below_step (by repeat (first | (with_reducible first | exact HB.out | apply below_alloc | apply pw_below_drewN | apply below_drew1) | exact HB.out)) hb); have n5_ := Aside0.mk (hbox); have n6_ := Aside0.mk ((by rw [hg]; exact (below_size (by repeat (first | (with_reducible first | exact HB.out | apply below_alloc | apply pw_below_drewN | apply below_drew1) | exact HB.out))) : w.heap.size ≤ gb617)); have n7_ := Aside0.mk ((by rw [hg]; exact (below_size (by repeat (first | (with_reducible first | exact HB.out | apply below_alloc | apply pw_below_drewN | apply below_drew1) | exact HB.out))) : w.heap.size ≤ gb617)); clear HO_11; clear HO_12; clear HL616_5; clear HR616_5; clear HB; have HO_11 := n0_; have HO_12 := n1_; have HL616_5 := n2_; have HR616_5 := n3_; have HB := n4_; have BK617 := n5_; have GW617 := n6_; have GE617 := n7_; clear n0_ n1_ n2_ n3_ n4_ n5_ n6_ n7_; clear hb hbox hg; have hcz97_0 : w96.cell? ⟨gb617, 0, none⟩ = some (.int .i64 0) := (blk_cell BK617.out 0).trans rfl; have hcz97_1 : w96.cell? ⟨gb617, 1, none⟩ = some (.int .i64 0) := (blk_cell BK617.out 1).trans rfl; have hcz97_2 : w96.cell? ⟨gb617, 2, none⟩ = some (.int .i64 0) := (blk_cell BK617.out 2).trans rfl; have hcz97_3 : w96.cell? ⟨gb617, 3, none⟩ = some (.int .i64 0) := (blk_cell BK617.out 3).trans rfl; have hcz97_4 : w96.cell? ⟨gb617, 4, none⟩ = some (.int .i64 0) := (blk_cell BK617.out 4).trans rfl; have hcz97_5 : w96.cell? ⟨gb617, 5, none⟩ = some (.slice none 0 0) := (blk_cell BK617.out 5).trans rfl; have hfz97_0 := blk_frozen BK617.out 0; have hfz97_1 := blk_frozen BK617.out 1; have hfz97_2 := blk_frozen BK617.out 2; have hfz97_3 := blk_frozen BK617.out 3; have hfz97_4 := blk_frozen BK617.out 4; have hfz97_5 := blk_frozen BK617.out 5; have p618 : 0 ≤ (x13_3 : Int) := of_decide_eq_true (by first | (with_reducible assumption) | assumption); have q618 : x13_3 < (t610.length : Int) := of_decide_eq_true (by first | (with_reducible assumption) | assumption); obtain ⟨ad618, e618, hx618_0⟩ := Kd.at_int (Kd.R_reads' HO_12.out).2.2 x13_3 p618 q618; obtain rfl : ad614 = ad618 := (by injection e618); have hn618_0 : ad614.block ≠ gb617 := Kd.own_blk (Kd.R_ne HO_12.out BK617.out (by decide)); have hn618_1 : ad614.block ≠ gb617 := Kd.own_blk (Kd.R_ne HO_12.out BK617.out (by decide)); have hn618_2 : ad614.block ≠ gb617 := Kd.own_blk (Kd.R_ne HO_12.out BK617.out (by decide)); have hn618_3 : ad614.block ≠ gb617 := Kd.own_blk (Kd.R_ne HO_12.out BK617.out (by decide)); have hn618_4 : ad614.block ≠ gb617 := Kd.own_blk (Kd.R_ne HO_12.out BK617.out (by decide)); have hn618_5 : ad614.block ≠ gb617 := Kd.own_blk (Kd.R_ne HO_12.out BK617.out (by decide)); replace hx618_0 := (cell_far (p := ⟨gb617, 0, none⟩) (by first | (rw [add_block]; exact hn618_0) | (show (Addr.add _ _).block ≠ _; rw [add_block]; exact hn618_0) | exact hn618_0) (.int .i64 ((rd_T61 t607 t615).f0))).trans hx618_0; replace hx618_0 := (cell_far (p := ⟨gb617, 1, none⟩) (by first | (rw [add_block]; exact hn618_1) | (show (Addr.add _ _).block ≠ _; rw [add_block]; exact hn618_1) | exact hn618_1) (.int .i64 ((rd_T61 t607 t615).f1))).trans hx618_0; replace hx618_0 := (cell_far (p := ⟨gb617, 2, none⟩) (by first | (rw [add_block]; exact hn618_2) | (show (Addr.add _ _).block ≠ _; rw [add_block]; exact hn618_2) | exact hn618_2) (.int .i64 ((rd_T61 t607 t615).f2))).trans hx618_0; replace hx618_0 := (cell_far (p := ⟨gb617, 3, none⟩) (by first | (rw [add_block]; exact hn618_3) | (show (Addr.add _ _).block ≠ _; rw [add_block]; exact hn618_3) | exact hn618_3) (.int .i64 ((rd_T61 t607 t615).f3))).trans hx618_0; replace hx618_0 := (cell_far (p := ⟨gb617, 4, none⟩) (by first | (rw [add_block]; exact hn618_4) | (show (Addr.add _ _).block ≠ _; rw [add_block]; exact hn618_4) | exact hn618_4) (.int .i64 ((rd_T61 t607 t615).f4))).trans hx618_0; replace hx618_0 := (cell_far (p := ⟨gb617, 5, none⟩) (by first | (rw [add_block]; exact hn618_5) | (show (Addr.add _ _).block ≠ _; rw [add_block]; exact hn618_5) | exact hn618_5) (.slice A616_5 ((rd_T61 t607 t615).f5).length c616_5)).trans hx618_0; clear hn618_0; clear hn618_1; clear hn618_2; clear hn618_3; clear hn618_4; clear hn618_5; replace p618 := eq_true p618; replace q618 := eq_true q618) | ((with_reducible refine gate_callee (f := 18) rfl ?_); refine goesL_ (some 125) rfl rfl Try.func18 (by kernel_rfl) rfl #[.slice (some ad616) t607.length co73, .int .i64 (rd t610 x13_3)] rfl (by (try simp only [List.map_toArray, List.map_cons, List.map_nil]); first | done | rfl | (simp only [List.length_drop, List.length_take]; rfl)) ?_; (with_reducible refine (impl_FindTeam.calls _ _ t607 (rd t610 x13_3) t619 _ ?side1 ?side2 A90.out).mono ?_); (case side1 => refine (Kd.S_reads' (e := 61) (base := w.heap.size) (ok := fun k_ => (some k_ ≠ (.slice (some ad614) t610.length co94 : Value).ownBlock ∧ k_ ≠ gb617)) (n := t607.length) (c := co73) ?_).2.2; exact (by (with_reducible repeat (first | apply Kd.S_alloc | apply Kd.S_drewN | apply Kd.S_drew)); exact (Kd.S_mono (Kd.S_far (p := ⟨gb617, 5, none⟩) (Kd.S_far (p := ⟨gb617, 4, none⟩) (Kd.S_far (p := ⟨gb617, 3, none⟩) (Kd.S_far (p := ⟨gb617, 2, none⟩) (Kd.S_far (p := ⟨gb617, 1, none⟩) (Kd.S_far (p := ⟨gb617, 0, none⟩) (Kd.S_mono HO_11.out (fun k_ hk => (⟨hk, hk.2⟩ : _ ∧ k_ ≠ gb617))) (fun _ hk => hk.2) (.int .i64 ((rd_T61 t607 t615).f0))) (fun _ hk => hk.2) (.int .i64 ((rd_T61 t607 t615).f1))) (fun _ hk => hk.2) (.int .i64 ((rd_T61 t607 t615).f2))) (fun _ hk => hk.2) (.int .i64 ((rd_T61 t607 t615).f3))) (fun _ hk => hk.2) (.int .i64 ((rd_T61 t607 t615).f4))) (fun _ hk => hk.2) (.slice A616_5 ((rd_T61 t607 t615).f5).length c616_5)) (fun _ h_ => h_.1)))); (case side2 => exact (Kd.S_reads' HO_11.out).2.1); rintro e w98 ⟨rfl, hb⟩; refine ⟨_, rfl, ?_⟩; have n0_ := Aside0.mk (Kd.S_below (by (with_reducible repeat (first | apply Kd.S_alloc | apply Kd.S_drewN | apply Kd.S_drew)); exact (Kd.S_mono (Kd.S_far (p := ⟨gb617, 5, none⟩) (Kd.S_far (p := ⟨gb617, 4, none⟩) (Kd.S_far (p := ⟨gb617, 3, none⟩) (Kd.S_far (p := ⟨gb617, 2, none⟩) (Kd.S_far (p := ⟨gb617, 1, none⟩) (Kd.S_far (p := ⟨gb617, 0, none⟩) (Kd.S_mono HO_11.out (fun k_ hk => (⟨hk, hk.2⟩ : _ ∧ k_ ≠ gb617))) (fun _ hk => hk.2) (.int .i64 ((rd_T61 t607 t615).f0))) (fun _ hk => hk.2) (.int .i64 ((rd_T61 t607 t615).f1))) (fun _ hk => hk.2) (.int .i64 ((rd_T61 t607 t615).f2))) (fun _ hk => hk.2) (.int .i64 ((rd_T61 t607 t615).f3))) (fun _ hk => hk.2) (.int .i64 ((rd_T61 t607 t615).f4))) (fun _ hk => hk.2) (.slice A616_5 ((rd_T61 t607 t615).f5).length c616_5)) (fun _ h_ => h_.1))) hb); have n1_ := Aside0.mk (Kd.R_below (by (with_reducible repeat (first | apply Kd.R_alloc | apply Kd.R_drewN | apply Kd.R_drew)); exact (Kd.R_mono (Kd.R_far (p := ⟨gb617, 5, none⟩) (Kd.R_far (p := ⟨gb617, 4, none⟩) (Kd.R_far (p := ⟨gb617, 3, none⟩) (Kd.R_far (p := ⟨gb617, 2, none⟩) (Kd.R_far (p := ⟨gb617, 1, none⟩) (Kd.R_far (p := ⟨gb617, 0, none⟩) (Kd.R_types HO_12.out BK617.out (by decide)) (fun _ hk => hk.2) (.int .i64 ((rd_T61 t607 t615).f0))) (fun _ hk => hk.2) (.int .i64 ((rd_T61 t607 t615).f1))) (fun _ hk => hk.2) (.int .i64 ((rd_T61 t607 t615).f2))) (fun _ hk => hk.2) (.int .i64 ((rd_T61 t607 t615).f3))) (fun _ hk => hk.2) (.int .i64 ((rd_T61 t607 t615).f4))) (fun _ hk => hk.2) (.slice A616_5 ((rd_T61 t607 t615).f5).length c616_5)) (fun _ h_ => h_.1))) hb); have n2_ := Aside0.mk (Kd.R_below (by (with_reducible repeat (first | apply Kd.R_alloc | apply Kd.R_drewN | apply Kd.R_drew)); exact (Kd.R_mono (Kd.R_far (p := ⟨gb617, 5, none⟩) (Kd.R_far (p := ⟨gb617, 4, none⟩) (Kd.R_far (p := ⟨gb617, 3, none⟩) (Kd.R_far (p := ⟨gb617, 2, none⟩) (Kd.R_far (p := ⟨gb617, 1, none⟩) (Kd.R_far (p := ⟨gb617, 0, none⟩) (Kd.R_types HL616_5.out BK617.out (by decide)) (fun _ hk => hk.2) (.int .i64 ((rd_T61 t607 t615).f0))) (fun _ hk => hk.2) (.int .i64 ((rd_T61 t607 t615).f1))) (fun _ hk => hk.2) (.int .i64 ((rd_T61 t607 t615).f2))) (fun _ hk => hk.2) (.int .i64 ((rd_T61 t607 t615).f3))) (fun _ hk => hk.2) (.int .i64 ((rd_T61 t607 t615).f4))) (fun _ hk => hk.2) (.slice A616_5 ((rd_T61 t607 t615).f5).length c616_5)) (fun _ h_ => h_.1))) hb); have n3_ := Aside0.mk (Kd.C_below ((Kd.R_reads' (by (with_reducible repeat (first | apply Kd.R_alloc | apply Kd.R_drewN | apply Kd.R_drew)); exact (Kd.R_mono (Kd.R_far (p := ⟨gb617, 5, none⟩) (Kd.R_far (p := ⟨gb617, 4, none⟩) (Kd.R_far (p := ⟨gb617, 3, none⟩) (Kd.R_far (p := ⟨gb617, 2, none⟩) (Kd.R_far (p := ⟨gb617, 1, none⟩) (Kd.R_far (p := ⟨gb617, 0, none⟩) (Kd.R_types HL616_5.out BK617.out (by decide)) (fun _ hk => hk.2) (.int .i64 ((rd_T61 t607 t615).f0))) (fun _ hk => hk.2) (.int .i64 ((rd_T61 t607 t615).f1))) (fun _ hk => hk.2) (.int .i64 ((rd_T61 t607 t615).f2))) (fun _ hk => hk.2) (.int .i64 ((rd_T61 t607 t615).f3))) (fun _ hk => hk.2) (.int .i64 ((rd_T61 t607 t615).f4))) (fun _ hk => hk.2) (.slice A616_5 ((rd_T61 t607 t615).f5).length c616_5)) (fun _ h_ => h_.1)))).2.2) hb); have n4_ := Aside0.mk (blk_below (g := gb617) (o := .cells #[.int .i64 ((rd_T61 t607 t615).f0), .int .i64 ((rd_T61 t607 t615).f1), .int .i64 ((rd_T61 t607 t615).f2), .int .i64 ((rd_T61 t607 t615).f3), .int .i64 ((rd_T61 t607 t615).f4), .slice A616_5 ((rd_T61 t607 t615).f5).length c616_5] 61 (0, 0)) (by (with_reducible repeat (first | refine blk_drewN ?_ _ | refine blk_drew ?_ | refine blk_alloc ?_ _)); refine blk_put (cs := #[.int .i64 ((rd_T61 t607 t615).f0), .int .i64 ((rd_T61 t607 t615).f1), .int .i64 ((rd_T61 t607 t615).f2), .int .i64 ((rd_T61 t607 t615).f3), .int .i64 ((rd_T61 t607 t615).f4), .slice none 0 0]) ?_ 5 _ rfl; (with_reducible repeat (first | refine blk_drewN ?_ _ | refine blk_drew ?_ | refine blk_alloc ?_ _)); refine blk_put (cs := #[.int .i64 ((rd_T61 t607 t615).f0), .int .i64 ((rd_T61 t607 t615).f1), .int .i64 ((rd_T61 t607 t615).f2), .int .i64 ((rd_T61 t607 t615).f3), .int .i64 0, .slice none 0 0]) ?_ 4 _ rfl; (with_reducible repeat (first | refine blk_drewN ?_ _ | refine blk_drew ?_ | refine blk_alloc ?_ _)); refine blk_put (cs := #[.int .i64 ((rd_T61 t607 t615).f0), .int .i64 ((rd_T61 t607 t615).f1), .int .i64 ((rd_T61 t607 t615).f2), .int .i64 0, .int .i64 0, .slice none 0 0]) ?_ 3 _ rfl; (with_reducible repeat (first | refine blk_drewN ?_ _ | refine blk_drew ?_ | refine blk_alloc ?_ _)); refine blk_put (cs := #[.int .i64 ((rd_T61 t607 t615).f0), .int .i64 ((rd_T61 t607 t615).f1), .int .i64 0, .int .i64 0, .int .i64 0, .slice none 0 0]) ?_ 2 _ rfl; (with_reducible repeat (first | refine blk_drewN ?_ _ | refine blk_drew ?_ | refine blk_alloc ?_ _)); refine blk_put (cs := #[.int .i64 ((rd_T61 t607 t615).f0), .int .i64 0, .int .i64 0, .int .i64 0, .int .i64 0, .slice none 0 0]) ?_ 1 _ rfl; (with_reducible repeat (first | refine blk_drewN ?_ _ | refine blk_drew ?_ | refine blk_alloc ?_ _)); refine blk_put (cs := #[.int .i64 0, .int .i64 0, .int .i64 0, .int .i64 0, .int .i64 0, .slice none 0 0]) ?_ 0 _ rfl; (with_reducible repeat (first | refine blk_drewN ?_ _ | refine blk_drew ?_ | refine blk_alloc ?_ _)); exact BK617.out) hb); have n5_ := Aside0.mk (below_step (by repeat (first | (with_reducible first | exact HB.out | apply below_alloc | apply pw_below_drewN | apply below_drew1 | refine below_set ?_ GE617.out) | exact HB.out)) hb); clear HO_11; clear HO_12; clear HL616_5; clear HR616_5; clear BK617; clear HB; have HO_11 := n0_; have HO_12 := n1_; have HL616_5 := n2_; have HR616_5 := n3_; have BK617 := n4_; have HB := n5_; clear n0_ n1_ n2_ n3_ n4_ n5_; (try clear hb); (try clear hb2); (try clear hk); (try clear hi); have p620 : 0 ≤ (t619 : Int) := of_decide_eq_true (by first | (with_reducible assumption) | assumption); have q620 : t619 < (t607.length : Int) := of_decide_eq_true (by first | (with_reducible assumption) | assumption); obtain ⟨ad620, A620_5, c620_5, e620, hx620_0, hx620_1, hx620_2, hx620_3, hx620_4, hx620_5, hl620_5, hi620_5⟩ := at_T61 (Kd.S_reads' HO_11.out).2.2 t619 p620 q620; obtain rfl : ad616 = ad620 := (by injection e620); obtain ⟨ce620, hce620, hMe620, hcc620⟩ := Kd.S_get HO_11.out z61 t619 p620 (by first | exact q620 | exact of_decide_eq_true (by first | (with_reducible assumption) | assumption) | (have e_ := (Kd.S_reads' HO_11.out).1; omega)); obtain ⟨ve620_5, rfl, ge620_5⟩ := k61_openM hMe620; have hv620_5 := hcc620 5 _ rfl; rw [add_field _ _ 5 (by omega)] at hv620_5; replace hv620_5 := Option.some.inj (hv620_5.symm.trans hx620_5); rw [hv620_5] at ge620_5; have HL620_5 := Aside0.mk (show Kd.R (Kd.int .i64) 3 _ _ _ _ ((rd_T61 t607 t619).f5) from ge620_5); clear hv620_5 ge620_5; clear hcc620 hce620; have HR620_5 := Aside0.mk hi620_5; have HC620_5 := Aside0.mk hl620_5; clear hi620_5 hl620_5; replace p620 := eq_true p620; replace q620 := eq_true q620) | ((with_reducible refine gate_dst (N := 15) rfl ?_); (try (refine gate_guard (by rfl) ?_; dsimp only)); refine box_event ?hg (N := 15) ?hd (cs := #[.int .i64 0, .int .i64 0, .int .i64 0, .int .i64 0, .int .i64 0, .slice none 0 0]) (t := 61) ?hr ?_; (case hd => rfl); (case hg => rfl); (case hr => first | (go_simp; done) | (go_simp; rfl)); intro gb621 hg w99 hbox hb; have n0_ := Aside0.mk (Kd.S_below (Kd.S_elderB (by (with_reducible repeat (first | apply Kd.S_alloc | apply Kd.S_drewN | apply Kd.S_drew)); exact HO_11.out) gb621 (Nat.le_of_eq hg.symm)) hb); have n1_ := Aside0.mk (Kd.R_below (by (with_reducible repeat (first | apply Kd.R_alloc | apply Kd.R_drewN | apply Kd.R_drew)); exact HO_12.out) hb); have n2_ := Aside0.mk (Kd.R_below (by (with_reducible repeat (first | apply Kd.R_alloc | apply Kd.R_drewN | apply Kd.R_drew)); exact HL616_5.out) hb); have n3_ := Aside0.mk (Kd.R_below (by (with_reducible repeat (first | apply Kd.R_alloc | apply Kd.R_drewN | apply Kd.R_drew)); exact HL620_5.out) hb); have n4_ := Aside0.mk (Kd.C_below (by repeat (first | (with_reducible exact HR616_5.out) | (with_reducible refine Kd.C_alloc ?_ _) | (with_reducible refine Kd.C_drewN ?_ _) | (with_reducible refine Kd.C_drew ?_) | exact HR616_5.out)) hb); have n5_ := Aside0.mk (blk_below (g := gb617) (o := .cells #[.int .i64 ((rd_T61 t607 t615).f0), .int .i64 ((rd_T61 t607 t615).f1), .int .i64 ((rd_T61 t607 t615).f2), .int .i64 ((rd_T61 t607 t615).f3), .int .i64 ((rd_T61 t607 t615).f4), .slice A616_5 ((rd_T61 t607 t615).f5).length c616_5] 61 (0, 0)) (by (with_reducible repeat (first | refine blk_drewN ?_ _ | refine blk_drew ?_ | refine blk_alloc ?_ _)); exact BK617.out) hb); have n6_ := Aside0.mk (Kd.C_below (by repeat (first | (with_reducible exact HR620_5.out) | (with_reducible refine Kd.C_alloc ?_ _) | (with_reducible refine Kd.C_drewN ?_ _) | (with_reducible refine Kd.C_drew ?_) | exact HR620_5.out)) hb); have n7_ := Aside0.mk (below_step (by repeat (first | (with_reducible first | exact HB.out | apply below_alloc | apply pw_below_drewN | apply below_drew1 | refine below_set ?_ GE617.out) | exact HB.out)) hb); have n8_ := Aside0.mk (hbox); have n9_ := Aside0.mk ((by rw [hg]; exact (below_size (by repeat (first | (with_reducible first | exact HB.out | apply below_alloc | apply pw_below_drewN | apply below_drew1 | refine below_set ?_ GE617.out) | exact HB.out))) : w.heap.size ≤ gb621)); have n10_ := Aside0.mk ((by rw [hg]; exact (below_size (by repeat (first | (with_reducible first | exact HB.out | apply below_alloc | apply pw_below_drewN | apply below_drew1 | refine below_set ?_ GE617.out) | exact HB.out))) : w.heap.size ≤ gb621)); have n11_ := Aside0.mk ((by rw [hg]; exact Nat.ne_of_lt (blk_lt (g := gb617) (o := .cells #[.int .i64 ((rd_T61 t607 t615).f0), .int .i64 ((rd_T61 t607 t615).f1), .int .i64 ((rd_T61 t607 t615).f2), .int .i64 ((rd_T61 t607 t615).f3), .int .i64 ((rd_T61 t607 t615).f4), .slice A616_5 ((rd_T61 t607 t615).f5).length c616_5] 61 (0, 0)) (by (with_reducible repeat (first | refine blk_drewN ?_ _ | refine blk_drew ?_ | refine blk_alloc ?_ _)); exact BK617.out)) : gb617 ≠ gb621)); have n12_ := Aside0.mk ((by rw [hg]; exact Nat.ne_of_gt (blk_lt (g := gb617) (o := .cells #[.int .i64 ((rd_T61 t607 t615).f0), .int .i64 ((rd_T61 t607 t615).f1), .int .i64 ((rd_T61 t607 t615).f2), .int .i64 ((rd_T61 t607 t615).f3), .int .i64 ((rd_T61 t607 t615).f4), .slice A616_5 ((rd_T61 t607 t615).f5).length c616_5] 61 (0, 0)) (by (with_reducible repeat (first | refine blk_drewN ?_ _ | refine blk_drew ?_ | refine blk_alloc ?_ _)); exact BK617.out)) : gb621 ≠ gb617)); clear HO_11; clear HO_12; clear HL616_5; clear HL620_5; clear HR616_5; clear BK617; clear HR620_5; clear HB; have HO_11 := n0_; have HO_12 := n1_; have HL616_5 := n2_; have HL620_5 := n3_; have HR616_5 := n4_; have BK617 := n5_; have HR620_5 := n6_; have HB := n7_; have BK621 := n8_; have GW621 := n9_; have GE621 := n10_; have NB617_621 := n11_; have NB621_617 := n12_; clear n0_ n1_ n2_ n3_ n4_ n5_ n6_ n7_ n8_ n9_ n10_ n11_ n12_; clear hb hbox hg; have hnb100 := NB621_617.out; have hnc100 := NB617_621.out; have hcz101_0 : w99.cell? ⟨gb621, 0, none⟩ = some (.int .i64 0) := (blk_cell BK621.out 0).trans rfl; have hcz101_1 : w99.cell? ⟨gb621, 1, none⟩ = some (.int .i64 0) := (blk_cell BK621.out 1).trans rfl; have hcz101_2 : w99.cell? ⟨gb621, 2, none⟩ = some (.int .i64 0) := (blk_cell BK621.out 2).trans rfl; have hcz101_3 : w99.cell? ⟨gb621, 3, none⟩ = some (.int .i64 0) := (blk_cell BK621.out 3).trans rfl; have hcz101_4 : w99.cell? ⟨gb621, 4, none⟩ = some (.int .i64 0) := (blk_cell BK621.out 4).trans rfl; have hcz101_5 : w99.cell? ⟨gb621, 5, none⟩ = some (.slice none 0 0) := (blk_cell BK621.out 5).trans rfl; have hfz101_0 := blk_frozen BK621.out 0; have hfz101_1 := blk_frozen BK621.out 1; have hfz101_2 := blk_frozen BK621.out 2; have hfz101_3 := blk_frozen BK621.out 3; have hfz101_4 := blk_frozen BK621.out 4; have hfz101_5 := blk_frozen BK621.out 5; have hcz102_0 : w99.cell? ⟨gb617, 0, none⟩ = some (.int .i64 ((rd_T61 t607 t615).f0)) := (blk_cell BK617.out 0).trans rfl; have hcz102_1 : w99.cell? ⟨gb617, 1, none⟩ = some (.int .i64 ((rd_T61 t607 t615).f1)) := (blk_cell BK617.out 1).trans rfl; have hcz102_2 : w99.cell? ⟨gb617, 2, none⟩ = some (.int .i64 ((rd_T61 t607 t615).f2)) := (blk_cell BK617.out 2).trans rfl; have hcz102_3 : w99.cell? ⟨gb617, 3, none⟩ = some (.int .i64 ((rd_T61 t607 t615).f3)) := (blk_cell BK617.out 3).trans rfl; have hcz102_4 : w99.cell? ⟨gb617, 4, none⟩ = some (.int .i64 ((rd_T61 t607 t615).f4)) := (blk_cell BK617.out 4).trans rfl; have hcz102_5 : w99.cell? ⟨gb617, 5, none⟩ = some (.slice A616_5 ((rd_T61 t607 t615).f5).length c616_5) := (blk_cell BK617.out 5).trans rfl; have hfz102_0 := blk_frozen BK617.out 0; have hfz102_1 := blk_frozen BK617.out 1; have hfz102_2 := blk_frozen BK617.out 2; have hfz102_3 := blk_frozen BK617.out 3; have hfz102_4 := blk_frozen BK617.out 4; have hfz102_5 := blk_frozen BK617.out 5))
         all_goals (go_ret; exact ⟨by first | rfl | (simp [errW_none, errW_some] <;> rfl) | (simp only [← hji83]; first | rfl | (simp [errW_none, errW_some] <;> rfl)) | (simp [*, errW_none, errW_some] <;> rfl), by repeat (first | (with_reducible first | exact HB.out | apply below_alloc | apply pw_below_drewN | apply below_drew1 | refine below_set ?_ GE617.out | refine below_set ?_ GE621.out) | exact HB.out)⟩)
      subst c81
      have H1 : (some false) = some r := by rw [if_pos rfl] at H; exact H
      clear H
      have H := H1
      clear H1
      obtain rfl := Option.some.inj H
      go_wp2
      all_goals (go_ret; exact ⟨by first | rfl | (simp [errW_none, errW_some] <;> rfl) | (simp [*, errW_none, errW_some] <;> rfl), by repeat (first | (with_reducible first | exact HB.out | apply below_alloc | apply pw_below_drewN | apply below_drew1) | exact HB.out)⟩)
 subst c3
 have H1 : (some true) = some r := by rw [if_pos rfl] at H; exact H
 clear H
 have H := H1
 clear H1
 obtain rfl := Option.some.inj H
 go_enter Try.func14, Try.ntmps14
 go_wp2_with (first | ((with_reducible refine gate_callee (f := 51) rfl ?_); refine goesL_ (some 17) rfl rfl Try.func51 (by kernel_rfl) rfl #[.slice A0 l0.length c0] rfl (by (try simp only [List.map_toArray, List.map_cons, List.map_nil]); first | done | rfl | (simp only [List.length_drop, List.length_take]; rfl)) ?_; (with_reducible refine (laws_big.calls _ _ l0 true _ ?side1 ?side2 A2.out).mono ?_); (case side1 => repeat (first | exact HR0.out | (with_reducible refine Kd.C_alloc ?_ _) | (with_reducible refine Kd.C_drewN ?_ _) | (with_reducible refine Kd.C_drew ?_))); (case side2 => exact HC0.out); rintro e w' ⟨rfl, ⟨nd, rfl⟩⟩; refine ⟨_, rfl, ?_⟩))
 all_goals (go_ret; exact ⟨by first | rfl | (simp [errW_none, errW_some] <;> rfl) | (simp [*, errW_none, errW_some] <;> rfl), by repeat (first | (with_reducible first | exact HB.out | apply below_alloc | apply pw_below_drewN | apply below_drew1) | exact HB.out)⟩)
def laws_FnTeams.Pure : Prop := ∀ (l0 : List Int), l0.length ≤ maxLen → l0.length * 1 ≤ 140737488351232 → (∀ x ∈ l0, (Lit.int .u8 x).wf = true) → ∃ k, laws_FnTeams.f k l0 = some true
end Go.Proofs.Ytiimiogpiflkdaa.A
end

section
set_option linter.unusedVariables false
namespace Go.Proofs.Ytiimiogpiflkdaa.Open
open Go.ChangeShapes Go.WideShapes Go.Deep Go.RowKit Go.Proofs.YtiimiogpiflkdaaW.PrintWords
def Opn (P : Program) (t : TypeId) {α : Type} (d : Kd α) : Prop :=
  ∀ (H : Type) (enc : TypeId × Value → H) (w : World) (base : Nat) (spare : Nat → Bool) (held : Bool) (fuel : Nat) (cs : List Value) (y : DataW H × List MemPlace),
    DataW.trod enc P w base spare held fuel t cs = some y → ∃ x : α, d.K w x cs
def OpnL (P : Program) (fs : List Field) {α : Type} (d : Kd α) : Prop :=
  ∀ (H : Type) (enc : TypeId × Value → H) (w : World) (base : Nat) (spare : Nat → Bool) (held : Bool) (cs : List Value), cs.length = fs.length →
    (∀ (j : Nat) (f : Field) (c : Value), fs[j]? = some f → cs[j]? = some c → ∃ (n : Nat) (y : DataW H × List MemPlace), DataW.trod enc P w base spare held n f.type [c] = some y) → ∃ x : α, d.K w x cs
theorem opn_int {P : Program} {t : TypeId} {k : IntKind} (ht : P.underlying t = some (.int k)) : Opn P t (Kd.int k) := by
  intro H enc w base spare held fuel cs y h
  obtain ⟨n, rfl, _⟩ := DataW.trod_int ht h
  exact ⟨n, rfl⟩
theorem list_of {α : Type} {p : Nat → α → Prop} : ∀ n, (∀ i, i < n → ∃ x, p i x) → ∃ l : List α, l.length = n ∧ ∀ i x, l[i]? = some x → p i x
  | 0, _ => ⟨[], rfl, fun i x h => by simp at h⟩
  | n + 1, h => by
    obtain ⟨l, hl, hp⟩ := list_of n (fun i hi => h i (by omega))
    obtain ⟨x, hx⟩ := h n (by omega)
    refine ⟨l ++ [x], by simp [hl], fun i y hy => ?_⟩
    rcases Nat.lt_or_ge i l.length with hi | hi
    · rw [List.getElem?_append_left hi] at hy
      exact hp i y hy
    · have hi' : i = l.length := by
        have := (List.getElem?_eq_some_iff.1 hy).1
        rw [List.length_append, List.length_singleton] at this
        omega
      subst hi'
      have : x = y := by simpa using hy
      subst this
      rw [hl]
      exact hx
theorem opn_slice {P : Program} {t e : TypeId} {α : Type} {d : Kd α} (ht : P.underlying t = some (.slice e)) (hC : P.cellsOf e = d.sz) (he : Opn P e d) : Opn P t (Kd.slice e d) := by
  intro H enc w base spare held fuel cs y h
  rcases open_slice ht h with ⟨rfl, _⟩ | ⟨a, len, cap, m, n, D, Pl, rfl, hb, hl, hm, hmm, hx, hi⟩
  · exact ⟨[], none, 0, rfl, Nat.le_refl _, rfl, by simp, fun h => absurd h (by simp)⟩
  · have hlm : len ≤ m := by rw [hmm]; split <;> omega
    obtain ⟨xs, hxl, hp⟩ := list_of (p := fun i x => ∃ cs', w.cells? base (a.add (i * P.cellsOf e)) (P.cellsOf e) = some cs' ∧ d.K w x cs') len (fun i hil => by
      obtain ⟨cs', h1, h2⟩ := hi i (by omega)
      obtain ⟨x, hx⟩ := he H enc w base spare held n cs' _ h2
      exact ⟨x, cs', h1, hx⟩)
    refine ⟨xs, some a, cap, by rw [hxl], by omega, rfl, by unfold maxLen at hm; omega, fun _ => ⟨a, rfl, fun j p hj => ?_⟩⟩
    obtain ⟨cs', hc, hk⟩ := hp j p hj
    obtain ⟨_, hcl, hat⟩ := World.cells?_some hc
    refine ⟨cs', d.K_len hk, hk, fun i u hu => ?_⟩
    have hil : i < cs'.length := (List.getElem?_eq_some_iff.1 hu).1
    have := hat i (by omega)
    rw [Go.Deep.add_add, hC] at this
    rw [this]
    exact hu
theorem opened {H : Type} {enc : TypeId × Value → H} {P : Program} {W : World} {base : Nat} {spare : Nat → Bool} {held : Bool} {t e : TypeId} {α : Type} {d : Kd α} (h : Opn P t (Kd.slice e d)) {a : Option Addr} {len cap : Nat} {dd : DataW H} {ps : List MemPlace}
    (ht : DataW.Trod enc P W base spare held t (.slice a len cap) dd ps) : ∃ l : List α, l.length = len ∧ l.length ≤ cap ∧ d.C W a l.length l := by
  obtain ⟨fuel, hf⟩ := ht
  obtain ⟨l, A, c, he, hl, hc⟩ := h H enc W base spare held fuel _ _ hf
  simp [Value.cells] at he
  obtain ⟨rfl, rfl, rfl⟩ := he
  exact ⟨l, rfl, hl, hc⟩
end Go.Proofs.Ytiimiogpiflkdaa.Open
end

section
set_option linter.unusedVariables false
set_option linter.unusedSimpArgs false
namespace Go.Proofs.Ytiimiogpiflkdaa.L
open Go Go.RowKit Go.Proofs.Ytiimiogpiflkdaa.A Go.Proofs.YtiimiogpiflkdaaW.PrintWords
theorem sAreTeams_ev (l : List Tm) (hs : Small l) : Ev (fun k => spec_AreTeams.f k l) (areT l) := by
  unfold spec_AreTeams.f
  exact Ev.pos (of_small hs) (Ev.now _)
theorem iAreTeams_ev (l : List Tm) (hs : Small l) : Ev (fun k => impl_AreTeams.f k l) (areT l) := by
  unfold impl_AreTeams.f
  exact Ev.pos (of_small hs) (Ev.now _)
end Go.Proofs.Ytiimiogpiflkdaa.L
end

section
set_option linter.unusedVariables false
set_option linter.unusedSimpArgs false
namespace Go.Proofs.Ytiimiogpiflkdaa.L
open Go Go.RowKit Go.Proofs.Ytiimiogpiflkdaa.A Go.Proofs.YtiimiogpiflkdaaW.PrintWords
def winsT (l : List Tm) : Nat → Nat → Int → Int
  | 0, _, a => a
  | d + 1, n, a => winsT l d (n + 1) (wrap64 (a + (rdT l n).f2))
def sumT (l : List Tm) : Int := if areT l = true then winsT l l.length 0 0 else 0
theorem iWins_l0 (l : List Tm) (hs : Small l) : ∀ (d n : Nat) (a : Int), n + d = l.length → Ev (fun k => impl_TotalWins.l0 k a l (l.length : Int) (n : Int)) (winsT l d n a) := by
  have hl := hs.1
  intro d
  induction d with
  | zero =>
    intro n a hd
    exact Ev.step (fun k => impl_TotalWins.l0.eq_2 ..) (Ev.neg (by omega) (Ev.now _))
  | succ d ih =>
    intro n a hd
    refine Ev.step (fun k => impl_TotalWins.l0.eq_2 ..) (Ev.pos (by omega) (Ev.pos (by omega) (Ev.pos (by omega) ?_)))
    simp only [w64s (show n < 4611686018427387904 by omega)]
    exact ih (n + 1) _ (by omega)
theorem iTotalWins_ev (l : List Tm) (hs : Small l) : Ev (fun k => impl_TotalWins.f k l) (sumT l) := by
  unfold impl_TotalWins.f sumT
  refine Ev.bind (iAreTeams_ev l hs) ?_
  by_cases ha : areT l = true
  · rw [if_pos ha]
    exact Ev.pos ha (iWins_l0 l hs l.length 0 0 (by omega))
  · rw [if_neg ha]
    exact Ev.neg ha (Ev.now _)
end Go.Proofs.Ytiimiogpiflkdaa.L
end

section
set_option linter.unusedVariables false
set_option linter.unusedSimpArgs false
namespace Go.Proofs.Ytiimiogpiflkdaa.L
open Go Go.RowKit Go.Proofs.Ytiimiogpiflkdaa.A Go.Proofs.YtiimiogpiflkdaaW.PrintWords
theorem Index_l0 (l : List Int) (x : Int) (hl : l.length ≤ 1099511627776) : ∀ (d n : Nat), n + d = l.length → Ev (fun k => slices_Index_int_int.l0 k l x (l.length : Int) (n : Int)) (if x ∈ l.drop n then ((n + (l.drop n).idxOf x : Nat) : Int) else -1) := by
  intro d
  induction d with
  | zero =>
    intro n hd
    refine Ev.step (fun k => slices_Index_int_int.l0.eq_2 ..) ?_
    refine Ev.neg (by omega) (Ev.some_ ?_)
    rw [List.drop_eq_nil_of_le (by omega)]
    simp
  | succ d ih =>
    intro n hd
    refine Ev.step (fun k => slices_Index_int_int.l0.eq_2 ..) ?_
    refine Ev.pos (by omega) (Ev.pos (by omega) (Ev.pos (by omega) ?_))
    simp only [w64s (show n < 4611686018427387904 by omega), rd_at (show n < l.length by omega)]
    have h1 := ih (n + 1) (by omega)
    rw [List.drop_eq_getElem_cons (show n < l.length by omega)]
    generalize l.drop (n + 1) = u at h1 ⊢
    refine Ev.ite (fun h => Ev.some_ ?_) (fun h => Ev.cast h1 ?_)
    · simp [h]
    · have h' : ¬ l[n] = x := fun e => h e.symm
      simp only [List.mem_cons, h, false_or, List.idxOf_cons, beq_eq_false_iff_ne.2 h']
      split
      · simp; omega
      · rfl
def idx (l : List Int) (x : Int) : Int := if x ∈ l then (l.idxOf x : Int) else -1
theorem Index_ev (l : List Int) (x : Int) (hl : l.length ≤ 1099511627776) : Ev (fun k => slices_Index_int_int.f k l x) (idx l x) := by
  unfold slices_Index_int_int.f
  refine Ev.cast (Index_l0 l x hl l.length 0 (by omega)) ?_
  simp [idx]
theorem Contains_ev (l : List Int) (x : Int) (hl : l.length ≤ 1099511627776) : Ev (fun k => slices_Contains_int_int.f k l x) (decide (x ∈ l)) := by
  unfold slices_Contains_int_int.f
  refine Ev.bind (Index_ev l x hl) (Ev.some_ ?_)
  unfold idx
  by_cases h : x ∈ l
  · simp [h]
  · simp [h]
end Go.Proofs.Ytiimiogpiflkdaa.L
end

section
namespace Go.Proofs.Ytiimiogpiflkdaa.A
open Go.RowKit Go.Proofs.YtiimiogpiflkdaaW.PrintWords Go.Proofs.YtiimiogpiflkdaaW.PrintLast Go.Proofs.YtiimiogpiflkdaaW.PrintMore
attribute [local go_sem] max2_int min2_int max_two min_two max_three min_three max_four min_four   -- for this text's walks alone
set_option linter.unusedVariables false
set_option linter.unusedSimpArgs false
def spec_l4Has.l0 : Nat → List Int → Int → Int → Option (Bool)
  | 0, _, _, _ => none
  | k + 1, x0, x1, x5 => if x5 < (x0.length : Int) then (if 0 ≤ x5 then (if (rd x0 x5) = x1 then (some true) else (spec_l4Has.l0 k x0 x1 (wrap64 (x5 + 1)))) else (none)) else (some false)
def spec_l4Has.f (k : Nat) (l0 : List Int) (a1 : Int) : Option (Bool) := spec_l4Has.l0 k l0 a1 0
end Go.Proofs.Ytiimiogpiflkdaa.A
end

section
set_option linter.unusedVariables false
set_option linter.unusedSimpArgs false
namespace Go.Proofs.Ytiimiogpiflkdaa.L
open Go Go.RowKit Go.Proofs.Ytiimiogpiflkdaa.A Go.Proofs.YtiimiogpiflkdaaW.PrintWords
end Go.Proofs.Ytiimiogpiflkdaa.L
end

section
namespace Go.Proofs.Ytiimiogpiflkdaa.A
open Go.RowKit Go.Proofs.YtiimiogpiflkdaaW.PrintWords Go.Proofs.YtiimiogpiflkdaaW.PrintLast Go.Proofs.YtiimiogpiflkdaaW.PrintMore
attribute [local go_sem] max2_int min2_int max_two min_two max_three min_three max_four min_four   -- for this text's walks alone
set_option linter.unusedVariables false
set_option linter.unusedSimpArgs false
def spec_HaveMet.f (k : Nat) (l0 : List (S61)) (a1 : Int) (a2 : Int) : Option (Bool) := (spec_FindTeam.f k l0 a1).bind fun t239 => (if t239 ≥ 0 then (if 0 ≤ t239 then (if t239 < (l0.length : Int) then ((spec_l4Has.f k ((rd_T61 l0 t239).f5) a2).bind fun t241 => (some t241)) else (none)) else (none)) else (some false))
end Go.Proofs.Ytiimiogpiflkdaa.A
end

section
set_option linter.unusedVariables false
set_option linter.unusedSimpArgs false
namespace Go.Proofs.Ytiimiogpiflkdaa.L
open Go Go.RowKit Go.Proofs.Ytiimiogpiflkdaa.A Go.Proofs.YtiimiogpiflkdaaW.PrintWords
def metT (l : List Tm) (a b : Int) : Bool := decide (0 ≤ findT l a ∧ b ∈ (rd_T61 l (findT l a)).f5)
theorem iHaveMet_ev (l : List Tm) (a b : Int) (hs : Small l) : Ev (fun k => impl_HaveMet.f k l a b) (metT l a b) := by
  unfold impl_HaveMet.f metT
  have hr := findT_range l a
  refine Ev.bnd (iFindTeam_eq l a) (Ev.ite (fun h => Ev.pos (by omega) (Ev.pos hr.2 (Ev.bind (Contains_ev _ b (hs.2 _ (rdTm_mem (by omega) hr.2))) (Ev.some_ ?_)))) (fun h => Ev.some_ ?_))
  · have : 0 ≤ findT l a := by omega
    simp [this]
  · have : ¬ 0 ≤ findT l a := by omega
    simp [this]
end Go.Proofs.Ytiimiogpiflkdaa.L
end

section
namespace Go.Proofs.Ytiimiogpiflkdaa.A
open Go.RowKit Go.Proofs.YtiimiogpiflkdaaW.PrintWords Go.Proofs.YtiimiogpiflkdaaW.PrintLast Go.Proofs.YtiimiogpiflkdaaW.PrintMore
attribute [local go_sem] max2_int min2_int max_two min_two max_three min_three max_four min_four   -- for this text's walks alone
set_option linter.unusedVariables false
set_option linter.unusedSimpArgs false
def spec_MayMeet.f (k : Nat) (l0 : List (S61)) (a1 : Int) (a2 : Int) : Option (Bool) := (spec_FindTeam.f k l0 a1).bind fun t242 => ((spec_FindTeam.f k l0 a2).bind fun t243 => ((spec_AreTeams.f k l0).bind fun t244 => (if t244 = true then (if t242 ≥ 0 then (if t243 ≥ 0 then (if t242 = t243 then (some false) else (if 0 ≤ t242 then (if t242 < (l0.length : Int) then (if 0 ≤ t243 then (if t243 < (l0.length : Int) then (if ((rd_T61 l0 t242).f1) = ((rd_T61 l0 t243).f1) then (some false) else ((spec_HaveMet.f k l0 a1 a2).bind fun t247 => (some (!t247)))) else (none)) else (none)) else (none)) else (none))) else (some false)) else (some false)) else (some false))))
def spec_MayMeet.T3 : Bool × List (List Nat × List Nat) := (true, [([], []), ([0], [0]), ([1, 1], [1]), ([2], [2]), ([3, 2], [2, 3]), ([2, 4], [2, 4]), ([5, 2], [5]), ([6], [6]), ([7, 6], [6, 7]), ([6, 8], [6, 8]), ([9, 6], [9]), ([10], [10]), ([10], [10]), ([11, 12, 10], [10, 11, 12]), ([10, 13], [10, 13]), ([14, 10], [14]), ([15], [15]), ([15], [15]), ([16, 17, 15], [15, 16, 17]), ([18, 15], [15, 18]), ([19, 15], [15, 19]), ([15], [15]), ([15], [15]), ([21, 22, 15], [15, 21, 22]), ([23, 15], [15, 23]), ([24, 15], [15, 24]), ([20, 25, 15], [15, 20, 25]), ([15, 26], [15, 26]), ([27, 15], [27]), ([28], [28]), ([28], [28]), ([28], [28]), ([29, 30, 31, 28, 28], [28, 29, 30, 31]), ([32, 28], [28, 32]), ([28, 33], [28, 33]), ([34, 32, 0, 1, 2, 3, 4, 5, 6, 7, 8, 9, 10, 11, 12, 13, 14, 15, 16, 17, 18, 19, 20, 21, 22, 23, 24, 25, 26, 27, 28, 29, 30, 31, 32, 33, 34], [34])])
def spec_MayMeet.B3 : List Nat := [0, 1, 3, 7, 15, 31, 63, 127, 255, 511, 1023, 2047, 2047, 8191, 16383, 32767, 65535, 65535, 262143, 524287, 1048575, 65535, 65535, 6356991, 14745599, 31522815, 67108863, 134217727, 268435455, 536870911, 536870911, 536870911, 4294967295, 8589934591, 17179869183, 34359738367]
end Go.Proofs.Ytiimiogpiflkdaa.A
end

section
namespace Go.Proofs.Ytiimiogpiflkdaa.A
open Go.RowKit Go.Proofs.YtiimiogpiflkdaaW.PrintWords Go.Proofs.YtiimiogpiflkdaaW.PrintLast Go.Proofs.YtiimiogpiflkdaaW.PrintMore
attribute [local go_sem] max2_int min2_int max_two min_two max_three min_three max_four min_four   -- for this text's walks alone
set_option linter.unusedVariables false
set_option linter.unusedSimpArgs false
def impl_MayMeet.f (k : Nat) (l0 : List (S61)) (a1 : Int) (a2 : Int) : Option (Bool) := (impl_FindTeam.f l0 a1).bind fun t311 => ((impl_FindTeam.f l0 a2).bind fun t312 => ((impl_AreTeams.f k l0).bind fun t313 => (if t313 = true then (if t311 ≥ 0 then (if t312 ≥ 0 then (if t311 = t312 then (some false) else (if 0 ≤ t311 then (if t311 < (l0.length : Int) then (if 0 ≤ t312 then (if t312 < (l0.length : Int) then (if ((rd_T61 l0 t311).f1) = ((rd_T61 l0 t312).f1) then (some false) else ((impl_HaveMet.f k l0 a1 a2).bind fun t316 => (some (!t316)))) else (none)) else (none)) else (none)) else (none))) else (some false)) else (some false)) else (some false))))
def impl_MayMeet.T2 : Bool × List (List Nat × List Nat) := (true, [([], []), ([0], [0]), ([1, 1], [1]), ([2], [2]), ([3, 2], [2, 3]), ([2, 4], [2, 4]), ([5, 2], [5]), ([6], [6]), ([7, 6], [6, 7]), ([6, 8], [6, 8]), ([9, 6], [9]), ([10], [10]), ([10], [10]), ([11, 12, 10], [10, 11, 12]), ([10, 13], [10, 13]), ([14, 10], [14]), ([15], [15]), ([15], [15]), ([16, 17, 15], [15, 16, 17]), ([18, 15], [15, 18]), ([19, 15], [15, 19]), ([15], [15]), ([15], [15]), ([21, 22, 15], [15, 21, 22]), ([23, 15], [15, 23]), ([24, 15], [15, 24]), ([20, 25, 15], [15, 20, 25]), ([15, 26], [15, 26]), ([27, 15], [27]), ([28], [28]), ([28], [28]), ([28], [28]), ([29, 30, 31, 28, 28], [28, 29, 30, 31]), ([32, 28], [28, 32]), ([28, 33], [28, 33]), ([34, 32, 0, 1, 2, 3, 4, 5, 6, 7, 8, 9, 10, 11, 12, 13, 14, 15, 16, 17, 18, 19, 20, 21, 22, 23, 24, 25, 26, 27, 28, 29, 30, 31, 32, 33, 34], [34])])
def impl_MayMeet.B2 : List Nat := [0, 1, 3, 7, 15, 31, 63, 127, 255, 511, 1023, 2047, 2047, 8191, 16383, 32767, 65535, 65535, 262143, 524287, 1048575, 65535, 65535, 6356991, 14745599, 31522815, 67108863, 134217727, 268435455, 536870911, 536870911, 536870911, 4294967295, 8589934591, 17179869183, 34359738367]
end Go.Proofs.Ytiimiogpiflkdaa.A
end

section
set_option linter.unusedVariables false
set_option linter.unusedSimpArgs false
namespace Go.Proofs.Ytiimiogpiflkdaa.L
open Go Go.RowKit Go.Proofs.Ytiimiogpiflkdaa.A Go.Proofs.YtiimiogpiflkdaaW.PrintWords
def mayT (l : List Tm) (a b : Int) : Bool :=
  areT l && decide (0 ≤ findT l a) && decide (0 ≤ findT l b) && decide (findT l a ≠ findT l b) && decide ((rdT l (findT l a)).f1 ≠ (rdT l (findT l b)).f1) && !metT l a b
end Go.Proofs.Ytiimiogpiflkdaa.L
end

section
namespace Go.Proofs.Ytiimiogpiflkdaa.A
open Go.RowKit Go.Proofs.YtiimiogpiflkdaaW.PrintWords Go.Proofs.YtiimiogpiflkdaaW.PrintLast Go.Proofs.YtiimiogpiflkdaaW.PrintMore
attribute [local go_sem] max2_int min2_int max_two min_two max_three min_three max_four min_four   -- for this text's walks alone
set_option linter.unusedVariables false
set_option linter.unusedSimpArgs false
def spec_l19Before.f (a0_0 : Int) (a0_1 : Int) (a0_2 : Int) (a0_3 : Int) (a0_4 : Int) (l0_5 : List Int) (a1_0 : Int) (a1_1 : Int) (a1_2 : Int) (a1_3 : Int) (a1_4 : Int) (l1_5 : List Int) : Option (Bool) := if a0_2 = a1_2 then (if a0_3 > a1_3 then (some true) else (if a0_3 = a1_3 then (some (decide (a0_0 < a1_0))) else (some false))) else (some (decide (a0_2 > a1_2)))
end Go.Proofs.Ytiimiogpiflkdaa.A
end

section
set_option linter.unusedVariables false
set_option linter.unusedSimpArgs false
namespace Go.Proofs.Ytiimiogpiflkdaa.L
open Go Go.RowKit Go.Proofs.Ytiimiogpiflkdaa.A Go.Proofs.YtiimiogpiflkdaaW.PrintWords
theorem befB_iff {u v : Tm} : befB u v = true ↔ v.f2 < u.f2 ∨ u.f2 = v.f2 ∧ (v.f3 < u.f3 ∨ u.f3 = v.f3 ∧ u.f0 < v.f0) := befK_iff (u := keyS u) (v := keyS v)
theorem tlT_all {l : List Tm} : ∀ (d n : Nat), tlT l d n = true → (∀ i : Nat, n ≤ i → i < n + d → okT l i = true) ∧ l.length ≤ 10
  | 0, n, h => ⟨fun i h1 h2 => by omega, of_decide_eq_true h⟩
  | d + 1, n, h => by
    simp only [tlT, Bool.and_eq_true] at h
    obtain ⟨h1, h2⟩ := tlT_all d (n + 1) h.2
    refine ⟨fun i hi hd => ?_, h2⟩
    by_cases e : i = n
    · rw [e]; exact h.1
    · exact h1 i (by omega) (by omega)
theorem areT_len {l : List Tm} (h : areT l = true) : l.length ≤ 10 := (tlT_all _ _ h).2
theorem areT_row {l : List Tm} (h : areT l = true) (i : Nat) (hi : i < l.length) : okT l i = true := (tlT_all _ _ h).1 i (by omega) (by omega)
theorem areT_asc {l : List Tm} (h : areT l = true) : ascT l (l.length - 1) := by
  intro i hi
  have h1 := areT_row h (i + 1) (by omega)
  simp only [okT, rowT, Bool.and_eq_true, decide_eq_true_eq] at h1
  have h2 := h1.1.2
  have e : ((i + 1 : Nat) : Int) - 1 = (i : Int) := by omega
  rw [e] at h2
  omega
theorem ordT_perm (l : List Tm) : (ordT l).Perm l := List.mergeSort_perm _ _
theorem ordT_sorted (l : List Tm) : (ordT l).Pairwise (fun u v => befB v u = false) := by
  have := ordT_sortedK l
  rw [List.pairwise_map] at this
  exact this
end Go.Proofs.Ytiimiogpiflkdaa.L
end

section
set_option linter.unusedVariables false
set_option linter.unusedSimpArgs false
namespace Go.Proofs.Ytiimiogpiflkdaa.L
open Go Go.RowKit Go.Proofs.Ytiimiogpiflkdaa.A Go.Proofs.YtiimiogpiflkdaaW.PrintWords
def addX (x : Tm) (b w p : Int) : Tm := ⟨x.f0, x.f1, if w = 1 then wrap64 (x.f2 + 1) else x.f2, wrap64 (x.f3 + p), wrap64 (x.f4 + 1), x.f5 ++ [b]⟩
def addY (y : Tm) (a w q : Int) : Tm := ⟨y.f0, y.f1, if w = 1 then y.f2 else wrap64 (y.f2 + 1), wrap64 (y.f3 + q), y.f4, y.f5 ++ [a]⟩
def addL (l : List Tm) (a b w p q : Int) : List Tm := (l.set (findT l a).toNat (addX (rdT l (findT l a)) b w p)).set (findT l b).toNat (addY (rdT l (findT l b)) a w q)
def addC (l : List Tm) (a b w p q : Int) : Prop := areT l = true ∧ 0 ≤ findT l a ∧ 0 ≤ findT l b ∧ findT l a ≠ findT l b ∧ inR w 1 2 = true ∧ inR p 0 1000 = true ∧ inR q 0 1000 = true
instance (l : List Tm) (a b w p q : Int) : Decidable (addC l a b w p q) := by unfold addC; infer_instance
def addT (l : List Tm) (a b w p q : Int) : List Tm × Bool := if addC l a b w p q then (if areT (addL l a b w p q) = true then (addL l a b w p q, true) else (l, false)) else (l, false)
theorem addL_len (l : List Tm) (a b w p q : Int) : (addL l a b w p q).length = l.length := by simp [addL]
theorem addT_len (l : List Tm) (a b w p q : Int) : (addT l a b w p q).1.length = l.length := by
  unfold addT
  split
  · split
    · exact addL_len _ _ _ _ _ _
    · rfl
  · rfl
theorem findT_ids : ∀ (l m : List Tm) (id : Int), l.map (fun t => t.f0) = m.map (fun t => t.f0) → findT l id = findT m id
  | [], [], id, _ => rfl
  | [], y :: m, id, h => by simp at h
  | x :: l, [], id, h => by simp at h
  | x :: l, y :: m, id, h => by
    simp only [List.map_cons, List.cons.injEq] at h
    have ih := findT_ids l m id h.2
    unfold findT at ih ⊢
    rw [fidx_cons, fidx_cons, ih]
    simp only [h.1]
theorem rd_set_ne {l : List Tm} {i j : Int} {v : Tm} (hi : 0 ≤ i) (hj : 0 ≤ j) (h : i ≠ j) : rdT (l.set i.toNat v) j = rdT l j := by
  have : i.toNat ≠ j.toNat := by omega
  simp [rdT, rd_T61, List.getElem?_set_ne this]
theorem rd_set_same {l : List Tm} {i : Int} {v : Tm} (h0 : 0 ≤ i) (h1 : i < l.length) : rdT (l.set i.toNat v) i = v := by
  have : i.toNat < l.length := by omega
  simp [rdT, rd_T61, List.getElem?_set_self this]
theorem set_ids {l : List Tm} {i : Int} {v : Tm} (h0 : 0 ≤ i) (h1 : i < l.length) (h : v.f0 = (rdT l i).f0) : (l.set i.toNat v).map (fun t => t.f0) = l.map (fun t => t.f0) := by
  obtain ⟨hl, e⟩ := rdTm_int h0 h1
  have e2 : v.f0 = (l[i.toNat]).f0 := by rw [h]; show (rd_T61 l i).f0 = _; rw [e]
  apply List.ext_getElem
  · simp
  · intro n h1 h2
    simp only [List.getElem_map, List.getElem_set]
    split
    · rename_i hn
      subst hn
      exact e2
    · rfl
theorem addL_ids {l : List Tm} {a b : Int} (w p q : Int) (ha : 0 ≤ findT l a) (hb : 0 ≤ findT l b) (hn : findT l a ≠ findT l b) : (addL l a b w p q).map (fun t => t.f0) = l.map (fun t => t.f0) := by
  have h1 := findT_range l a
  have h2 := findT_range l b
  unfold addL
  rw [set_ids hb (by simpa using h2.2) (by rw [rd_set_ne ha hb hn]; rfl), set_ids (v := addX (rdT l (findT l a)) b w p) ha h1.2 rfl]
theorem addL_a {l : List Tm} {a b : Int} (w p q : Int) (ha : 0 ≤ findT l a) (hb : 0 ≤ findT l b) (hn : findT l a ≠ findT l b) : rdT (addL l a b w p q) (findT l a) = addX (rdT l (findT l a)) b w p := by
  have h1 := findT_range l a
  unfold addL
  rw [rd_set_ne hb ha hn.symm, rd_set_same ha h1.2]
theorem addL_b {l : List Tm} {a b : Int} (w p q : Int) (ha : 0 ≤ findT l a) (hb : 0 ≤ findT l b) (hn : findT l a ≠ findT l b) : rdT (addL l a b w p q) (findT l b) = addY (rdT l (findT l b)) a w q := by
  have h2 := findT_range l b
  unfold addL
  rw [rd_set_same hb (by simpa using h2.2)]
theorem addL_met {l : List Tm} {a b : Int} (w p q : Int) (ha : 0 ≤ findT l a) (hb : 0 ≤ findT l b) (hn : findT l a ≠ findT l b) : metT (addL l a b w p q) a b = true ∧ metT (addL l a b w p q) b a = true := by
  have hi := addL_ids w p q ha hb hn
  have e1 := findT_ids _ _ a hi
  have e2 := findT_ids _ _ b hi
  have k1 := addL_a w p q ha hb hn
  have k2 := addL_b w p q ha hb hn
  refine ⟨decide_eq_true ⟨by omega, ?_⟩, decide_eq_true ⟨by omega, ?_⟩⟩
  · rw [e1]
    show b ∈ (rdT (addL l a b w p q) (findT l a)).f5
    rw [k1]
    simp [addX]
  · rw [e2]
    show a ∈ (rdT (addL l a b w p q) (findT l b)).f5
    rw [k2]
    simp [addY]
theorem sum_set : ∀ (l : List Tm) (i : Nat) (v : Tm) (h : i < l.length), ((l.set i v).map (fun t => t.f2)).sum = (l.map (fun t => t.f2)).sum + v.f2 - (l[i]).f2
  | x :: l, 0, v, h => by simp only [List.set_cons_zero, List.map_cons, List.sum_cons, List.getElem_cons_zero]; omega
  | x :: l, i + 1, v, h => by
    simp only [List.length_cons] at h
    have := sum_set l i v (by omega)
    simp only [List.set_cons_succ, List.map_cons, List.sum_cons, List.getElem_cons_succ]
    omega
theorem sum_setI {l : List Tm} {i : Int} {v : Tm} (h0 : 0 ≤ i) (h1 : i < l.length) : ((l.set i.toNat v).map (fun t => t.f2)).sum = (l.map (fun t => t.f2)).sum + v.f2 - (rdT l i).f2 := by
  obtain ⟨hl, e⟩ := rdTm_int h0 h1
  rw [sum_set l i.toNat v hl]
  show _ = _ + _ - (rd_T61 l i).f2
  rw [e]
theorem areT_f2 {l : List Tm} (h : areT l = true) (n : Nat) (hn : n < l.length) : 0 ≤ (l[n]).f2 ∧ (l[n]).f2 ≤ 20 := by
  have h1 := areT_row h n hn
  simp only [okT, rowT, Bool.and_eq_true, decide_eq_true_eq, inR_iff] at h1
  have h2 := h1.1
  simp only [rdT, rdTm hn] at h2
  omega
theorem winsT_sum {l : List Tm} (h : areT l = true) : ∀ (d n : Nat) (a : Int), n + d = l.length → 0 ≤ a → a + 20 * d ≤ 1000 → winsT l d n a = a + ((l.drop n).map (fun t => t.f2)).sum
  | 0, n, a, hd, h0, h1 => by
    rw [List.drop_eq_nil_of_le (by omega)]
    simp [winsT]
  | d + 1, n, a, hd, h0, h1 => by
    have hn : n < l.length := by omega
    have hb := areT_f2 h n hn
    rw [winsT, List.drop_eq_getElem_cons hn]
    have e : (rdT l n) = l[n] := rdTm hn
    rw [e, w64 (by omega) (by omega), winsT_sum h d (n + 1) _ (by omega) (by omega) (by omega)]
    simp only [List.map_cons, List.sum_cons]
    omega
theorem sumT_sum {l : List Tm} (h : areT l = true) : sumT l = (l.map (fun t => t.f2)).sum := by
  unfold sumT
  have := areT_len h
  rw [if_pos h, winsT_sum h l.length 0 0 (by omega) (by omega) (by omega)]
  simp
theorem addL_wins {l : List Tm} {a b w p q : Int} (h : addC l a b w p q) (hx : areT (addL l a b w p q) = true) : sumT (addL l a b w p q) = wrap64 (sumT l + 1) := by
  obtain ⟨h1, h2, h3, h4, h5, h6, h7⟩ := h
  have r1 := findT_range l a
  have r2 := findT_range l b
  have hl := areT_len h1
  obtain ⟨ka, ea⟩ := rdTm_int h2 r1.2
  obtain ⟨kb, eb⟩ := rdTm_int h3 r2.2
  have ba := areT_f2 h1 _ ka
  have bb := areT_f2 h1 _ kb
  rw [← ea] at ba
  rw [← eb] at bb
  have e : ((addL l a b w p q).map (fun t => t.f2)).sum = (l.map (fun t => t.f2)).sum + 1 := by
    unfold addL
    rw [sum_setI h3 (by simpa using r2.2), sum_setI h2 r1.2, rd_set_ne h2 h3 h4]
    simp only [addX, addY, rdT]
    by_cases hw : w = 1
    · rw [if_pos hw, if_pos hw, w64 (by omega) (by omega)]
      omega
    · rw [if_neg hw, if_neg hw, w64 (by omega) (by omega)]
      omega
  have hs : winsT l l.length 0 0 = sumT l := by unfold sumT; rw [if_pos h1]
  have hb : ∀ (d n : Nat) (a : Int), n + d = l.length → 0 ≤ a → a + 20 * d ≤ 1000 → 0 ≤ winsT l d n a ∧ winsT l d n a ≤ 1000 := by
    intro d
    induction d with
    | zero => intro n a _ h0 h1; exact ⟨h0, by simp only [winsT]; omega⟩
    | succ d ih =>
      intro n a hd h0 h2
      have hn : n < l.length := by omega
      have hbn := areT_f2 h1 n hn
      rw [winsT]
      have e : (rdT l n) = l[n] := rdTm hn
      rw [e, w64 (by omega) (by omega)]
      exact ih (n + 1) _ (by omega) (by omega) (by omega)
  have hb2 := hb l.length 0 0 (by omega) (by omega) (by omega)
  rw [hs] at hb2
  rw [sumT_sum hx, e, w64 (by omega) (by omega), ← sumT_sum h1]
theorem addL_first {l : List Tm} {a b w p q : Int} (h : addC l a b w p q) : (rdT (addL l a b w p q) (findT (addL l a b w p q) a)).f4 = wrap64 ((rdT l (findT l a)).f4 + 1) := by
  obtain ⟨h1, h2, h3, h4, h5, h6, h7⟩ := h
  rw [findT_ids _ _ a (addL_ids w p q h2 h3 h4), addL_a w p q h2 h3 h4]
  rfl
def Tiny (n m : Nat) (l : List Tm) : Prop := l.length ≤ n ∧ ∀ x ∈ l, x.f5.length ≤ m
theorem mem_set {l : List Tm} {i : Nat} {v x : Tm} (h : x ∈ l.set i v) : x = v ∨ x ∈ l := by
  rcases List.mem_or_eq_of_mem_set h with h | h
  · exact .inr h
  · exact .inl h
theorem rdT_f5 {l : List Tm} {m : Nat} (h : ∀ x ∈ l, x.f5.length ≤ m) {i : Int} (h0 : 0 ≤ i) (h1 : i < l.length) : (rdT l i).f5.length ≤ m := h _ (rdTm_mem h0 h1)
theorem addT_tiny {n m : Nat} {l : List Tm} (h : Tiny n m l) (a b w p q : Int) : Tiny n (m + 1) (addT l a b w p q).1 := by
  have hw : Tiny n (m + 1) l := ⟨h.1, fun x hx => by have := h.2 x hx; omega⟩
  unfold addT
  split
  · rename_i hc
    obtain ⟨h1, h2, h3, h4, h5, h6, h7⟩ := hc
    split
    · refine ⟨by rw [addL_len]; exact h.1, fun x hx => ?_⟩
      have r1 := findT_range l a
      have r2 := findT_range l b
      unfold addL at hx
      rcases mem_set hx with rfl | hx
      · have := rdT_f5 h.2 h3 r2.2
        simp only [addY, List.length_append, List.length_cons, List.length_nil]
        omega
      · rcases mem_set hx with rfl | hx
        · have := rdT_f5 h.2 h2 r1.2
          simp only [addX, List.length_append, List.length_cons, List.length_nil]
          omega
        · exact hw.2 x hx
    · exact hw
  · exact hw
theorem Tiny.small {n m : Nat} {l : List Tm} (h : Tiny n m l) (hn : n ≤ 1099511627776) (hm : m ≤ 1099511627776) : Small l := ⟨by have := h.1; omega, fun x hx => by have := h.2 x hx; omega⟩
end Go.Proofs.Ytiimiogpiflkdaa.L
end

section
set_option linter.unusedVariables false
set_option linter.unusedSimpArgs false
namespace Go.Proofs.Ytiimiogpiflkdaa.L
open Go Go.RowKit Go.Proofs.Ytiimiogpiflkdaa.A Go.Proofs.YtiimiogpiflkdaaW.PrintWords
structure Two (l : List Tm) (i j : Int) : Prop where
  i0 : 0 ≤ i
  i1 : i < l.length
  j0 : 0 ≤ j
  j1 : j < l.length
  ne : i ≠ j
def st2 (l : List Tm) (i j : Int) (u v : Tm) : List Tm := (l.set i.toNat u).set j.toNat v
theorem st2_len {l : List Tm} {i j : Int} {u v : Tm} (H : Two l i j) : ((st2 l i j u v).length : Int) = l.length := by simp [st2]
theorem st2_first {l : List Tm} {i j : Int} {u : Tm} (H : Two l i j) : l.set i.toNat u = st2 l i j u (rdT l j) := by
  have h1 := H.j0
  have h2 := H.j1
  have h3 := H.i0
  have h4 := H.ne
  have h5 : i.toNat ≠ j.toNat := by omega
  have hl : j.toNat < l.length := by omega
  have e : rdT l j = l[j.toNat] := by simp [rdT, rd_T61, hl]
  unfold st2
  rw [e]
  apply List.ext_getElem?
  intro q
  by_cases hq : j.toNat = q
  · subst hq
    rw [List.getElem?_set_self (by simpa using hl), List.getElem?_set_ne h5, List.getElem?_eq_getElem hl]
  · rw [List.getElem?_set_ne hq]
theorem st2_rd_i {l : List Tm} {i j : Int} {u v : Tm} (H : Two l i j) : rdT (st2 l i j u v) i = u := by
  unfold st2
  rw [rd_set_ne H.j0 H.i0 H.ne.symm, rd_set_same H.i0 H.i1]
theorem st2_rd_j {l : List Tm} {i j : Int} {u v : Tm} (H : Two l i j) : rdT (st2 l i j u v) j = v := by
  unfold st2
  rw [rd_set_same H.j0 (by simpa using H.j1)]
theorem st2_set_i {l : List Tm} {i j : Int} {u v u' : Tm} (H : Two l i j) : (st2 l i j u v).set i.toNat u' = st2 l i j u' v := by
  have h1 := H.j0
  have h3 := H.i0
  have h4 := H.ne
  have h5 : i.toNat ≠ j.toNat := by omega
  unfold st2
  rw [List.set_comm _ _ (Ne.symm h5), List.set_set]
theorem st2_set_j {l : List Tm} {i j : Int} {u v v' : Tm} (H : Two l i j) : (st2 l i j u v).set j.toNat v' = st2 l i j u v' := by
  unfold st2
  rw [List.set_set]
theorem small_len {l : List Tm} (hs : Small l) {i : Int} (h0 : 0 ≤ i) (h1 : i < l.length) : (rdT l i).f5.length ≤ 1099511627776 := rdT_f5 hs.2 h0 h1
theorem small_addL {l : List Tm} (hs : Small l) (ha : areT l = true) {a b : Int} (w p q : Int) (h1 : 0 ≤ findT l a) (h2 : 0 ≤ findT l b) : Small (addL l a b w p q) := by
  have r1 := findT_range l a
  have r2 := findT_range l b
  have hm : ∀ x ∈ l, x.f5.length ≤ 20 := fun x hx => by
    obtain ⟨n, hn, rfl⟩ := List.getElem_of_mem hx
    have h1 := areT_row ha n hn
    simp only [okT, rowT, Bool.and_eq_true, decide_eq_true_eq] at h1
    have h2 := h1.1.1.2
    simp only [rdT, rdTm hn] at h2
    omega
  refine ⟨by rw [addL_len]; exact hs.1, fun x hx => ?_⟩
  unfold addL at hx
  rcases mem_set hx with rfl | hx
  · have := rdT_f5 hm h2 r2.2
    simp only [addY, List.length_append, List.length_cons, List.length_nil]
    omega
  · rcases mem_set hx with rfl | hx
    · have := rdT_f5 hm h1 r1.2
      simp only [addX, List.length_append, List.length_cons, List.length_nil]
      omega
    · have := hm x hx
      omega
theorem sCopy_l0 (l : List Tm) (hs : Small l) : ∀ (d n : Nat) (acc : List Tm), n + d = l.length → acc = l.take n → Ev (fun k => spec_l19Copy.l0 k l acc (n : Int)) l := by
  have hl := hs.1
  intro d
  induction d with
  | zero =>
    intro n acc hd ha
    refine Ev.step (fun k => spec_l19Copy.l0.eq_2 ..) (Ev.neg (by omega) (Ev.some_ ?_))
    rw [ha, List.take_of_length_le (by omega)]
  | succ d ih =>
    intro n acc hd ha
    have hn : n < l.length := by omega
    have h5 := hs.2 _ (List.getElem_mem hn)
    have hal : acc.length = n := by rw [ha, List.length_take]; omega
    refine Ev.step (fun k => spec_l19Copy.l0.eq_2 ..) (Ev.pos (by omega) (Ev.pos (by omega) (Ev.bnd rfl ?_)))
    simp only [w64s (show n < 4611686018427387904 by omega), rdTm hn, List.nil_append]
    refine Ev.pos (by simp only [List.length_nil]; omega) (Ev.pos (by omega) ?_)
    refine ih (n + 1) _ (by omega) ?_
    rw [List.take_succ_eq_append_getElem hn, ha]
theorem sCopy_ev (l : List Tm) (hs : Small l) : Ev (fun k => spec_l19Copy.f k l) l := by
  unfold spec_l19Copy.f
  exact sCopy_l0 l hs l.length 0 [] (by omega) (by simp)
theorem sAdd_fin (l : List Tm) (a b w p q : Int) (hs : Small l) (hc : addC l a b w p q) : Ev (fun k => spec_AddResult.j1 k l (addL l a b w p q)) (addT l a b w p q) := by
  have hS := small_addL hs hc.1 w p q hc.2.1 hc.2.2.1
  refine Ev.step (fun k => spec_AddResult.j1.eq_2 ..) (Ev.bind (sAreTeams_ev _ hS) ?_)
  unfold addT
  rw [if_pos hc]
  refine Ev.ite (fun h => Ev.some_ (by rw [if_pos h])) (fun h => Ev.bind (sCopy_ev l hs) (Ev.some_ (by rw [if_neg h])))
theorem sAdd_j0 (l : List Tm) (a b w p q : Int) (hs : Small l) (hc : addC l a b w p q) : Ev (fun k => spec_AddResult.j0 k l a b w p q l (findT l a) (findT l b) false) (addT l a b w p q) := by
  have ra := findT_range l a
  have rb := findT_range l b
  have H : Two l (findT l a) (findT l b) := ⟨hc.2.1, ra.2, hc.2.2.1, rb.2, hc.2.2.2.1⟩
  have fin := sAdd_fin l a b w p q hs hc
  have ha5 := small_len hs H.i0 H.i1
  have hb5 := small_len hs H.j0 H.j1
  unfold addL at fin
  generalize findT l a = i at H ra ha5 fin ⊢
  generalize findT l b = j at H rb hb5 fin ⊢
  have fin2 : Ev (fun k => spec_AddResult.j1 k l (st2 l i j (addX (rdT l i) b w p) (addY (rdT l j) a w q))) (addT l a b w p q) := fin
  refine Ev.step (fun k => spec_AddResult.j0.eq_2 ..) (Ev.neg (by simp) (Ev.pos H.i0 (Ev.pos H.i1 (Ev.pos (show (rdT l i).f5.length < _ by omega) ?_))))
  refine Ev.bnd (congrArg some (st2_first H)) (Ev.pos H.j0 (Ev.pos H.j1 (Ev.pos (show (rdT (st2 l i j _ _) j).f5.length < _ by rw [st2_rd_j H]; omega) ?_)))
  refine Ev.bnd (congrArg some (st2_set_j H)) (Ev.bnd (congrArg some (st2_set_i H)) (Ev.bnd (congrArg some (st2_set_i H)) (Ev.bnd (congrArg some (st2_set_j H)) ?_)))
  change Ev (fun k => if w = 1 then spec_AddResult.j1 k l ((st2 l i j _ _).set i.toNat (⟨(rdT (st2 l i j _ _) i).f0, (rdT (st2 l i j _ _) i).f1, wrap64 ((rdT (st2 l i j _ _) i).f2 + 1), (rdT (st2 l i j _ _) i).f3, (rdT (st2 l i j _ _) i).f4, (rdT (st2 l i j _ _) i).f5⟩ : Tm)) else spec_AddResult.j1 k l ((st2 l i j _ _).set j.toNat (⟨(rdT (st2 l i j _ _) j).f0, (rdT (st2 l i j _ _) j).f1, wrap64 ((rdT (st2 l i j _ _) j).f2 + 1), (rdT (st2 l i j _ _) j).f3, (rdT (st2 l i j _ _) j).f4, (rdT (st2 l i j _ _) j).f5⟩ : Tm))) _
  rw [st2_set_i H, st2_set_j H]
  refine Ev.ite (fun hw => ?_) (fun hw => ?_)
  · have e : addX (rdT l i) b w p = ⟨(rdT l i).f0, (rdT l i).f1, wrap64 ((rdT l i).f2 + 1), wrap64 ((rdT l i).f3 + p), wrap64 ((rdT l i).f4 + 1), (rdT l i).f5 ++ [b]⟩ := by simp [addX, hw]
    have e2 : addY (rdT l j) a w q = ⟨(rdT l j).f0, (rdT l j).f1, (rdT l j).f2, wrap64 ((rdT l j).f3 + q), (rdT l j).f4, (rdT l j).f5 ++ [a]⟩ := by simp [addY, hw]
    rw [e, e2] at fin2
    simp only [rdT] at fin2
    simpa only [← show ∀ xs x, rdT xs x = rd_T61 xs x from fun _ _ => rfl, st2_rd_i H, st2_rd_j H] using fin2
  · have e : addX (rdT l i) b w p = ⟨(rdT l i).f0, (rdT l i).f1, (rdT l i).f2, wrap64 ((rdT l i).f3 + p), wrap64 ((rdT l i).f4 + 1), (rdT l i).f5 ++ [b]⟩ := by simp [addX, hw]
    have e2 : addY (rdT l j) a w q = ⟨(rdT l j).f0, (rdT l j).f1, wrap64 ((rdT l j).f2 + 1), wrap64 ((rdT l j).f3 + q), (rdT l j).f4, (rdT l j).f5 ++ [a]⟩ := by simp [addY, hw]
    rw [e, e2] at fin2
    simpa only [st2_rd_i H, st2_rd_j H] using fin2
theorem sAdd_ev (l : List Tm) (a b w p q : Int) (hs : Small l) : Ev (fun k => spec_AddResult.f k l a b w p q) (addT l a b w p q) := by
  unfold spec_AddResult.f
  have hj : ∀ x y, ¬ addC l a b w p q → Ev (fun k => spec_AddResult.j0 k l a b w p q l x y true) (addT l a b w p q) := fun x y h => Ev.step (fun k => spec_AddResult.j0.eq_2 ..) (Ev.pos rfl (Ev.some_ (by unfold addT; rw [if_neg h])))
  refine Ev.bind (sCopy_ev l hs) (Ev.bind (sFindTeam_ev l a hs.1) (Ev.bind (sFindTeam_ev l b hs.1) (Ev.bind (sAreTeams_ev l hs) ?_)))
  refine Ev.ite (fun h1 => ?_) (fun h1 => hj _ _ (fun h => h1 h.1))
  refine Ev.ite (fun h2 => hj _ _ (fun h => by have := h.2.1; omega)) (fun h2 => ?_)
  refine Ev.ite (fun h3 => hj _ _ (fun h => by have := h.2.2.1; omega)) (fun h3 => ?_)
  refine Ev.ite (fun h4 => hj _ _ (fun h => h.2.2.2.1 h4)) (fun h4 => ?_)
  refine Ev.bnd (l1In_eq _ _ _) (Ev.ite (fun h5 => ?_) (fun h5 => hj _ _ (fun h => h5 h.2.2.2.2.1)))
  refine Ev.bnd (l1In_eq _ _ _) (Ev.ite (fun h6 => ?_) (fun h6 => hj _ _ (fun h => h6 h.2.2.2.2.2.1)))
  refine Ev.bnd (l1In_eq _ _ _) ?_
  cases h7 : inR q 0 1000 with
  | false => exact hj _ _ (fun h => by have h8 := h.2.2.2.2.2.2; rw [h7] at h8; cases h8)
  | true => exact sAdd_j0 l a b w p q hs ⟨h1, by omega, by omega, h4, h5, h6, h7⟩
end Go.Proofs.Ytiimiogpiflkdaa.L
end

section
set_option linter.unusedVariables false
set_option linter.unusedSimpArgs false
namespace Go.Proofs.Ytiimiogpiflkdaa.L
open Go Go.RowKit Go.Proofs.Ytiimiogpiflkdaa.A Go.Proofs.YtiimiogpiflkdaaW.PrintWords
theorem iClone_l0 (l : List Tm) (hs : Small l) : ∀ (d n : Nat) (acc : List Tm), n + d = l.length → acc = l.take n → Ev (fun k => impl_cloneTeams.l0 k acc l (l.length : Int) (n : Int)) l := by
  have hl := hs.1
  intro d
  induction d with
  | zero =>
    intro n acc hd ha
    refine Ev.step (fun k => impl_cloneTeams.l0.eq_2 ..) (Ev.neg (by omega) (Ev.some_ ?_))
    rw [ha, List.take_of_length_le (by omega)]
  | succ d ih =>
    intro n acc hd ha
    have hn : n < l.length := by omega
    have h5 := hs.2 _ (List.getElem_mem hn)
    have hal : acc.length = n := by rw [ha, List.length_take]; omega
    refine Ev.step (fun k => impl_cloneTeams.l0.eq_2 ..) (Ev.pos (by omega) (Ev.pos (by omega) (Ev.pos (by omega) ?_)))
    simp only [w64s (show n < 4611686018427387904 by omega), rdTm hn]
    refine Ev.bnd (a := (l[n]).f5) (by unfold slices_Clone_int_int.f; exact if_pos (by omega)) (Ev.pos (by omega) ?_)
    refine ih (n + 1) _ (by omega) ?_
    rw [List.take_succ_eq_append_getElem hn, ha]
theorem iClone_ev (l : List Tm) (hs : Small l) : Ev (fun k => impl_cloneTeams.f k l) l := by
  unfold impl_cloneTeams.f
  exact iClone_l0 l hs l.length 0 [] (by omega) (by simp)
theorem iAdd_fin (l : List Tm) (a b w p q : Int) (hs : Small l) (hc : addC l a b w p q) : Ev (fun k => (impl_AreTeams.f k (addL l a b w p q)).bind fun t => (if t = true then some (addL l a b w p q, true) else (impl_cloneTeams.f k l).bind fun t => some (t, false))) (addT l a b w p q) := by
  have hS := small_addL hs hc.1 w p q hc.2.1 hc.2.2.1
  refine Ev.bind (iAreTeams_ev _ hS) ?_
  unfold addT
  rw [if_pos hc]
  refine Ev.ite (fun h => Ev.some_ (by rw [if_pos h])) (fun h => Ev.bind (iClone_ev l hs) (Ev.some_ (by rw [if_neg h])))
theorem iAdd_j1 (l : List Tm) (i j p q : Int) (u v : Tm) (H : Two l i j) (R : List Tm × Bool)
    (fin : Ev (fun k => (impl_AreTeams.f k (st2 l i j ⟨u.f0, u.f1, u.f2, wrap64 (u.f3 + p), u.f4, u.f5⟩ ⟨v.f0, v.f1, v.f2, wrap64 (v.f3 + q), v.f4, v.f5⟩)).bind fun t => (if t = true then some (st2 l i j ⟨u.f0, u.f1, u.f2, wrap64 (u.f3 + p), u.f4, u.f5⟩ ⟨v.f0, v.f1, v.f2, wrap64 (v.f3 + q), v.f4, v.f5⟩, true) else (impl_cloneTeams.f k l).bind fun t => some (t, false))) R) :
    Ev (fun k => impl_AddResult.j1 k l p q (st2 l i j u v) i j) R := by
  refine Ev.step (fun k => impl_AddResult.j1.eq_2 ..) (Ev.pos H.i0 (Ev.pos (by rw [st2_len H]; exact H.i1) ?_))
  refine Ev.bnd (congrArg some (st2_set_i H)) (Ev.pos H.j0 (Ev.pos (by rw [st2_len H]; exact H.j1) (Ev.bnd (congrArg some (st2_set_j H)) ?_)))
  have e1 : rd_T61 (st2 l i j u v) i = u := st2_rd_i H
  simp only [e1]
  have e2 : ∀ z, rd_T61 (st2 l i j z v) j = v := fun z => st2_rd_j H
  simp only [e2]
  exact fin
theorem iAdd_j0 (l : List Tm) (a b w p q : Int) (hs : Small l) (hc : addC l a b w p q) : Ev (fun k => impl_AddResult.j0 k l a b w p q l (findT l a) (findT l b) false) (addT l a b w p q) := by
  have ra := findT_range l a
  have rb := findT_range l b
  have H : Two l (findT l a) (findT l b) := ⟨hc.2.1, ra.2, hc.2.2.1, rb.2, hc.2.2.2.1⟩
  have fin := iAdd_fin l a b w p q hs hc
  have ha5 := small_len hs H.i0 H.i1
  have hb5 := small_len hs H.j0 H.j1
  unfold addL at fin
  generalize findT l a = i at H ra ha5 fin ⊢
  generalize findT l b = j at H rb hb5 fin ⊢
  have fin2 : Ev (fun k => (impl_AreTeams.f k (st2 l i j (addX (rdT l i) b w p) (addY (rdT l j) a w q))).bind fun t => (if t = true then some (st2 l i j (addX (rdT l i) b w p) (addY (rdT l j) a w q), true) else (impl_cloneTeams.f k l).bind fun t => some (t, false))) (addT l a b w p q) := fin
  refine Ev.step (fun k => impl_AddResult.j0.eq_2 ..) (Ev.neg (by simp) (Ev.pos H.i0 (Ev.pos H.i1 (Ev.pos (show (rdT l i).f5.length < _ by omega) ?_))))
  refine Ev.bnd (congrArg some (st2_first H)) (Ev.pos H.j0 (Ev.pos H.j1 (Ev.pos (show (rdT (st2 l i j _ _) j).f5.length < _ by rw [st2_rd_j H]; omega) ?_)))
  refine Ev.bnd (congrArg some (st2_set_j H)) (Ev.bnd (congrArg some (st2_set_i H)) ?_)
  refine Ev.ite (fun hw => ?_) (fun hw => ?_)
  · have e : addX (rdT l i) b w p = ⟨(rdT l i).f0, (rdT l i).f1, wrap64 ((rdT l i).f2 + 1), wrap64 ((rdT l i).f3 + p), wrap64 ((rdT l i).f4 + 1), (rdT l i).f5 ++ [b]⟩ := by simp [addX, hw]
    have e2 : addY (rdT l j) a w q = ⟨(rdT l j).f0, (rdT l j).f1, (rdT l j).f2, wrap64 ((rdT l j).f3 + q), (rdT l j).f4, (rdT l j).f5 ++ [a]⟩ := by simp [addY, hw]
    rw [e, e2] at fin2
    have := iAdd_j1 l i j p q ⟨(rdT l i).f0, (rdT l i).f1, wrap64 ((rdT l i).f2 + 1), (rdT l i).f3, wrap64 ((rdT l i).f4 + 1), (rdT l i).f5 ++ [b]⟩ ⟨(rdT l j).f0, (rdT l j).f1, (rdT l j).f2, (rdT l j).f3, (rdT l j).f4, (rdT l j).f5 ++ [a]⟩ H _ fin2
    refine Ev.cast (r := addT l a b w p q) ?_ rfl
    have e3 : ∀ u v, rd_T61 (st2 l i j u v) i = u := fun u v => st2_rd_i H
    have e4 : ∀ u v, rd_T61 (st2 l i j u v) j = v := fun u v => st2_rd_j H
    simp only [e3, e4, st2_set_i H]
    exact this
  · have e : addX (rdT l i) b w p = ⟨(rdT l i).f0, (rdT l i).f1, (rdT l i).f2, wrap64 ((rdT l i).f3 + p), wrap64 ((rdT l i).f4 + 1), (rdT l i).f5 ++ [b]⟩ := by simp [addX, hw]
    have e2 : addY (rdT l j) a w q = ⟨(rdT l j).f0, (rdT l j).f1, wrap64 ((rdT l j).f2 + 1), wrap64 ((rdT l j).f3 + q), (rdT l j).f4, (rdT l j).f5 ++ [a]⟩ := by simp [addY, hw]
    rw [e, e2] at fin2
    have := iAdd_j1 l i j p q ⟨(rdT l i).f0, (rdT l i).f1, (rdT l i).f2, (rdT l i).f3, wrap64 ((rdT l i).f4 + 1), (rdT l i).f5 ++ [b]⟩ ⟨(rdT l j).f0, (rdT l j).f1, wrap64 ((rdT l j).f2 + 1), (rdT l j).f3, (rdT l j).f4, (rdT l j).f5 ++ [a]⟩ H _ fin2
    have e3 : ∀ u v, rd_T61 (st2 l i j u v) i = u := fun u v => st2_rd_i H
    have e4 : ∀ u v, rd_T61 (st2 l i j u v) j = v := fun u v => st2_rd_j H
    simp only [e3, e4, st2_set_j H]
    exact this
theorem iAdd_ev (l : List Tm) (a b w p q : Int) (hs : Small l) : Ev (fun k => impl_AddResult.f k l a b w p q) (addT l a b w p q) := by
  unfold impl_AddResult.f
  have hj : ∀ x y, ¬ addC l a b w p q → Ev (fun k => impl_AddResult.j0 k l a b w p q l x y true) (addT l a b w p q) := fun x y h => Ev.step (fun k => impl_AddResult.j0.eq_2 ..) (Ev.pos rfl (Ev.some_ (by unfold addT; rw [if_neg h])))
  refine Ev.bind (iClone_ev l hs) (Ev.bnd (iFindTeam_eq l a) (Ev.bnd (iFindTeam_eq l b) (Ev.bind (iAreTeams_ev l hs) ?_)))
  refine Ev.ite (fun h1 => ?_) (fun h1 => hj _ _ (fun h => h1 h.1))
  refine Ev.ite (fun h2 => hj _ _ (fun h => by have := h.2.1; omega)) (fun h2 => ?_)
  refine Ev.ite (fun h3 => hj _ _ (fun h => by have := h.2.2.1; omega)) (fun h3 => ?_)
  refine Ev.ite (fun h4 => hj _ _ (fun h => h.2.2.2.1 h4)) (fun h4 => ?_)
  refine Ev.bnd (InRange_eq _ _ _) (Ev.ite (fun h5 => ?_) (fun h5 => hj _ _ (fun h => h5 h.2.2.2.2.1)))
  refine Ev.bnd (InRange_eq _ _ _) (Ev.ite (fun h6 => ?_) (fun h6 => hj _ _ (fun h => h6 h.2.2.2.2.2.1)))
  refine Ev.bnd (InRange_eq _ _ _) ?_
  cases h7 : inR q 0 1000 with
  | false => exact hj _ _ (fun h => by have h8 := h.2.2.2.2.2.2; rw [h7] at h8; cases h8)
  | true => exact iAdd_j0 l a b w p q hs ⟨h1, by omega, by omega, h4, h5, h6, h7⟩
end Go.Proofs.Ytiimiogpiflkdaa.L
end

section
set_option linter.unusedVariables false
set_option linter.unusedSimpArgs false
namespace Go.Proofs.Ytiimiogpiflkdaa.L
open Go Go.RowKit Go.Proofs.Ytiimiogpiflkdaa.A Go.Proofs.YtiimiogpiflkdaaW.PrintWords
theorem bits255 (x : Int) : 0 ≤ Go.bits .and .i64 x 255 ∧ Go.bits .and .i64 x 255 ≤ 255 := by
  have h : ((BitVec.ofInt 64 x) &&& (BitVec.ofInt 64 255)).toNat ≤ 255 := by
    rw [BitVec.toNat_and]
    exact Nat.le_trans Nat.and_le_right (by decide)
  show 0 ≤ IntKind.i64.wrap (((BitVec.ofInt 64 x) &&& (BitVec.ofInt 64 255)).toNat : Int) ∧ IntKind.i64.wrap (((BitVec.ofInt 64 x) &&& (BitVec.ofInt 64 255)).toNat : Int) ≤ 255
  generalize ((BitVec.ofInt 64 x) &&& (BitVec.ofInt 64 255)).toNat = t at h ⊢
  rw [IntKind.wrap_i64]
  omega
def At (b : List Int) (i : Int) : Prop := b.length ≤ 1099511627776 ∧ 0 ≤ i ∧ i ≤ b.length
theorem Byte_eq (b : List Int) (i h : Int) (ha : At b i) : ∃ r i' h', spec_l1Byte.f b i h = some (r, i', h') ∧ 0 ≤ r ∧ r ≤ 255 ∧ At b i' := by
  unfold spec_l1Byte.f
  obtain ⟨hl, h0, h1⟩ := ha
  by_cases hlt : i < (b.length : Int)
  · rw [if_pos hlt, if_pos h0, w64 (x := i + 1) (by omega) (by omega)]
    refine ⟨_, _, _, rfl, (bits255 _).1, (bits255 _).2, hl, by omega, by omega⟩
  · rw [if_neg hlt]
    exact ⟨_, _, _, rfl, (bits255 _).1, (bits255 _).2, hl, h0, h1⟩
theorem Below_eq (b : List Int) (i h n : Int) (ha : At b i) : ∃ r i' h', spec_l1Below.f b i h n = some (r, i', h') ∧ 0 ≤ r ∧ (0 < n → r < n) ∧ (n ≤ 0 → r = 0) ∧ At b i' := by
  unfold spec_l1Below.f
  by_cases h0 : n ≤ 0
  · rw [if_pos h0]
    exact ⟨_, _, _, rfl, by omega, by omega, fun _ => rfl, ha⟩
  · rw [if_neg h0]
    by_cases h1 : n ≤ 256
    · rw [if_pos h1]
      obtain ⟨r, i1, h2, e, hr0, hr1, ha1⟩ := Byte_eq b i h ha
      rw [e]
      simp only [Option.bind_some]
      rw [if_neg (by omega)]
      refine ⟨_, _, _, rfl, ?_, fun _ => ?_, fun hn => absurd hn h0, ha1⟩
      · exact Int.tmod_nonneg _ hr0
      · exact Int.tmod_lt_of_pos _ (by omega)
    · rw [if_neg h1]
      obtain ⟨r, i1, h2, e, hr0, hr1, ha1⟩ := Byte_eq b i h ha
      rw [e]
      simp only [Option.bind_some]
      obtain ⟨r3, i3, h3, e3, hr30, hr31, ha3⟩ := Byte_eq b i1 h2 ha1
      rw [e3]
      simp only [Option.bind_some]
      obtain ⟨r4, i4, h4, e4, hr40, hr41, ha4⟩ := Byte_eq b i3 h3 ha3
      rw [e4]
      simp only [Option.bind_some]
      rw [if_neg (by omega)]
      refine ⟨_, _, _, rfl, ?_, fun _ => ?_, fun hn => absurd hn h0, ha4⟩
      · refine Int.tmod_nonneg _ ?_
        rw [w64 (x := r * 65536) (by omega) (by omega), w64 (x := r3 * 256) (by omega) (by omega), w64 (x := r * 65536 + r3 * 256) (by omega) (by omega), w64 (by omega) (by omega)]
        omega
      · exact Int.tmod_lt_of_pos _ (by omega)
theorem DInt_eq (b : List Int) (i h : Int) (l : List Int) (hl : 0 < l.length) (ha : At b i) : ∃ r i' h', spec_l1Int.f b i h l = some (r, i', h') ∧ r ∈ l ∧ At b i' := by
  unfold spec_l1Int.f
  obtain ⟨r, i1, h2, e, h0, h1, _, ha1⟩ := Below_eq b i h l.length ha
  rw [e]
  simp only [Option.bind_some]
  rw [if_pos h0, if_pos (h1 (by omega))]
  refine ⟨_, _, _, rfl, ?_, ha1⟩
  have hr := h1 (by omega)
  obtain ⟨m, rfl⟩ : ∃ m : Nat, r = m := ⟨r.toNat, by omega⟩
  rw [rd_at (show m < l.length by omega)]
  exact List.getElem_mem _
theorem New_l0 (b : List Int) (hl : b.length ≤ 1099511627776) : ∀ (d n : Nat) (h : Int), n + d = b.length → ∃ h', Ev (fun k => spec_l1New.l0 k b h (n : Int)) (b, 0, h') := by
  intro d
  induction d with
  | zero =>
    intro n h hd
    exact ⟨_, Ev.step (fun k => spec_l1New.l0.eq_2 ..) (Ev.neg (by omega) (Ev.now _))⟩
  | succ d ih =>
    intro n h hd
    by_cases h4 : (n : Int) < 4000
    · obtain ⟨h', e⟩ := ih (n + 1) (Go.bits .and .i64 (wrap64 ((wrap64 ((wrap64 (h * 137)) + (wrap64 (rd b n)))) + 11)) 1073741823) (by omega)
      refine ⟨h', Ev.step (fun k => spec_l1New.l0.eq_2 ..) (Ev.pos (by omega) (Ev.pos h4 (Ev.pos (by omega) ?_)))⟩
      simp only [w64s (show n < 4611686018427387904 by omega)]
      exact e
    · exact ⟨_, Ev.step (fun k => spec_l1New.l0.eq_2 ..) (Ev.pos (by omega) (Ev.neg h4 (Ev.now _)))⟩
theorem New_ev (b : List Int) (hl : b.length ≤ 1099511627776) : ∃ h, Ev (fun k => spec_l1New.f k b) (b, 0, h) := by
  unfold spec_l1New.f
  exact New_l0 b hl b.length 0 _ (by omega)
theorem big_eq (b : List Int) : laws_big.f b = some (decide ((b.length : Int) > 1048576)) := rfl
end Go.Proofs.Ytiimiogpiflkdaa.L
end
