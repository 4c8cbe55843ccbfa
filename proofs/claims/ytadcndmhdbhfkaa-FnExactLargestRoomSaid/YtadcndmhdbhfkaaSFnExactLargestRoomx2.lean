/- What the row FnExactLargestRoom rests on, put together: A29, LOpen, LBase, LRngS, LRngI, LRoom0, LHas, LLarge, LXFnExactLargestRoom. No condition. -/
import Derived.Test.YtadcndmhdbhfkaaSFnExactLargestRoomx0
import Derived.Test.YtadcndmhdbhfkaaSFnExactLargestRoomx1
import Derived.Deep.Slices
import Derived.Deep.Fields
import Derived.ChangeSame
import Derived.Lib.SmallJoins
import Derived.Sort.LotA
section
namespace Go.Proofs.Ytadcndmhdbhfkaa.A
open Go.RowKit Go.Proofs.YtadcndmhdbhfkaaW.PrintWords Go.Proofs.YtadcndmhdbhfkaaW.PrintLast Go.Proofs.YtadcndmhdbhfkaaW.PrintMore
attribute [local go_sem] max2_int min2_int max_two min_two max_three min_three max_four min_four   -- for this text's walks alone
set_option linter.unusedVariables false
set_option linter.unusedSimpArgs false
def laws_FnExactLargestRoom.f (k : Nat) (l0 : List (S77)) : Option (Bool) := (laws_szRoomS.f l0 1048576).bind fun t189 => (if t189 < 0 then (some true) else ((laws_toRoomS.f k l0).bind fun t190 => ((spec_LargestRoom.f k t190).bind fun t193 => ((laws_toRoomS.f k l0).bind fun t194 => ((impl_LargestRoom.f k t194).bind fun t197 => (if t197 = t193 then ((laws_toRoomS.f k l0).bind fun t198 => ((laws_eqRoomS.f k t194 t198).bind fun t201 => (if t201 = true then (some true) else (some false)))) else (some false)))))))
set_option maxHeartbeats 8000000 in
set_option maxRecDepth 100000 in
theorem laws_FnExactLargestRoom.calls (k : Nat) (A0 : Option Addr) (c0 : Nat) (l0 : List (S77)) (r : Bool) (w : World) (hr0 : Kd.C k77 w A0 l0.length l0) (hc0 : l0.length ≤ c0) (h : laws_FnExactLargestRoom.f k l0 = some r) :
  Calls Try.prog 4 #[.slice A0 l0.length c0] w fun e w' => e = .returned (.bool r) ∧ Below w.heap.size w w' := by
 have HR0 := Aside0.mk hr0
 have HC0 := Aside0.mk hc0
 clear hr0 hc0
 have HB := Aside0.mk (Below.refl w.heap.size w)
 have H : ((laws_szRoomS.f l0 1048576).bind fun t189 => (if t189 < 0 then (some true) else ((laws_toRoomS.f k l0).bind fun t190 => ((spec_LargestRoom.f k t190).bind fun t193 => ((laws_toRoomS.f k l0).bind fun t194 => ((impl_LargestRoom.f k t194).bind fun t197 => (if t197 = t193 then ((laws_toRoomS.f k l0).bind fun t198 => ((laws_eqRoomS.f k t194 t198).bind fun t201 => (if t201 = true then (some true) else (some false)))) else (some false)))))))) = some r := h
 clear h
 replace H := Option.bind_eq_some_iff.mp H
 obtain ⟨t189, A20, H⟩ := H
 replace H : (if t189 < 0 then (some true) else ((laws_toRoomS.f k l0).bind fun t190 => ((spec_LargestRoom.f k t190).bind fun t193 => ((laws_toRoomS.f k l0).bind fun t194 => ((impl_LargestRoom.f k t194).bind fun t197 => (if t197 = t193 then ((laws_toRoomS.f k l0).bind fun t198 => ((laws_eqRoomS.f k t194 t198).bind fun t201 => (if t201 = true then (some true) else (some false)))) else (some false))))))) = some r := H
 have A2 := Aside0.mk A20
 clear A20
 by_cases c3 : t189 < 0
 ·
  rw [if_pos c3] at H
  have c3b0 : decide (t189 < 0) = true := decide_eq_true c3
  clear c3
  obtain rfl := Option.some.inj H
  go_enter Try.func4, Try.ntmps4
  go_wp2_with (first | ((with_reducible refine gate_callee (f := 12) rfl ?_); refine goesL_ (some 9) rfl rfl Try.func12 (by kernel_rfl) rfl #[.slice A0 l0.length c0, .int .i64 1048576] rfl (by (try simp only [List.map_toArray, List.map_cons, List.map_nil]); first | done | rfl | (simp only [List.length_drop, List.length_take]; rfl)) ?_; (with_reducible refine (laws_szRoomS.calls _ _ l0 1048576 t189 _ ?side1 ?side2 A2.out).mono ?_); (case side1 => repeat (first | exact HR0.out | (with_reducible refine Kd.C_alloc ?_ _) | (with_reducible refine Kd.C_drewN ?_ _) | (with_reducible refine Kd.C_drew ?_))); (case side2 => exact HC0.out); rintro e w' ⟨rfl, ⟨nd, rfl⟩⟩; refine ⟨_, rfl, ?_⟩))
  go_ret
  exact ⟨by first | rfl | (simp [errW_none, errW_some] <;> rfl) | (simp [*, errW_none, errW_some] <;> rfl), by repeat (first | (with_reducible first | exact HB.out | apply below_alloc | apply pw_below_drewN | apply below_drew1) | exact HB.out)⟩
 ·
  rw [if_neg c3] at H
  have c3b0 : decide (t189 < 0) = false := decide_eq_false c3
  clear c3
  replace H := Option.bind_eq_some_iff.mp H
  obtain ⟨t190, A40, H⟩ := H
  replace H : ((spec_LargestRoom.f k t190).bind fun t193 => ((laws_toRoomS.f k l0).bind fun t194 => ((impl_LargestRoom.f k t194).bind fun t197 => (if t197 = t193 then ((laws_toRoomS.f k l0).bind fun t198 => ((laws_eqRoomS.f k t194 t198).bind fun t201 => (if t201 = true then (some true) else (some false)))) else (some false))))) = some r := H
  have A4 := Aside0.mk A40
  clear A40
  replace H := Option.bind_eq_some_iff.mp H
  obtain ⟨t193, A50, H⟩ := H
  replace H : ((laws_toRoomS.f k l0).bind fun t194 => ((impl_LargestRoom.f k t194).bind fun t197 => (if t197 = t193 then ((laws_toRoomS.f k l0).bind fun t198 => ((laws_eqRoomS.f k t194 t198).bind fun t201 => (if t201 = true then (some true) else (some false)))) else (some false)))) = some r := H
  have A5 := Aside0.mk A50
  clear A50
  replace H := Option.bind_eq_some_iff.mp H
  obtain ⟨t194, A60, H⟩ := H
  replace H : ((impl_LargestRoom.f k t194).bind fun t197 => (if t197 = t193 then ((laws_toRoomS.f k l0).bind fun t198 => ((laws_eqRoomS.f k t194 t198).bind fun t201 => (if t201 = true then (some true) else (some false)))) else (some false))) = some r := H
  have A6 := Aside0.mk A60
  clear A60
  replace H := Option.bind_eq_some_iff.mp H
  obtain ⟨t197, A70, H⟩ := H
  replace H : (if t197 = t193 then ((laws_toRoomS.f k l0).bind fun t198 => ((laws_eqRoomS.f k t194 t198).bind fun t201 => (if t201 = true then (some true) else (some false)))) else (some false)) = some r := H
  have A7 := Aside0.mk A70
  clear A70
  by_cases c8 : t197 = t193
  ·
   rw [if_pos c8] at H
   have c8b0 : (t197 == t193) = true := beq_iff_eq.mpr c8
   have c8b1 : (t197 != t193) = false := bne_eq_false_iff_eq.mpr c8
   clear c8
   replace H := Option.bind_eq_some_iff.mp H
   obtain ⟨t198, A90, H⟩ := H
   replace H : ((laws_eqRoomS.f k t194 t198).bind fun t201 => (if t201 = true then (some true) else (some false))) = some r := H
   have A9 := Aside0.mk A90
   clear A90
   replace H := Option.bind_eq_some_iff.mp H
   obtain ⟨t201, A100, H⟩ := H
   replace H : (if t201 = true then (some true) else (some false)) = some r := H
   have A10 := Aside0.mk A100
   clear A100
   by_cases c11 : t201 = true
   ·
    subst c11
    have H1 : (some true) = some r := by rw [if_pos rfl] at H; exact H
    clear H
    have H := H1
    clear H1
    obtain rfl := Option.some.inj H
    go_enter Try.func4, Try.ntmps4
    go_wp2_with (first | ((with_reducible refine gate_callee (f := 12) rfl ?_); refine goesL_ (some 9) rfl rfl Try.func12 (by kernel_rfl) rfl #[.slice A0 l0.length c0, .int .i64 1048576] rfl (by (try simp only [List.map_toArray, List.map_cons, List.map_nil]); first | done | rfl | (simp only [List.length_drop, List.length_take]; rfl)) ?_; (with_reducible refine (laws_szRoomS.calls _ _ l0 1048576 t189 _ ?side1 ?side2 A2.out).mono ?_); (case side1 => repeat (first | exact HR0.out | (with_reducible refine Kd.C_alloc ?_ _) | (with_reducible refine Kd.C_drewN ?_ _) | (with_reducible refine Kd.C_drew ?_))); (case side2 => exact HC0.out); rintro e w' ⟨rfl, ⟨nd, rfl⟩⟩; refine ⟨_, rfl, ?_⟩) | ((with_reducible refine gate_callee (f := 14) rfl ?_); refine goesL_ (some 13) rfl rfl Try.func14 (by kernel_rfl) rfl #[.slice A0 l0.length c0] rfl (by (try simp only [List.map_toArray, List.map_cons, List.map_nil]); first | done | rfl | (simp only [List.length_drop, List.length_take]; rfl)) ?_; (with_reducible refine (laws_toRoomS.calls k _ _ l0 t190 _ ?side1 ?side2 A4.out).mono ?_); (case side1 => repeat (first | exact HR0.out | (with_reducible refine Kd.C_alloc ?_ _) | (with_reducible refine Kd.C_drewN ?_ _) | (with_reducible refine Kd.C_drew ?_))); (case side2 => exact HC0.out); rintro e w12 ⟨v191, rfl, ho0, hb⟩; refine ⟨_, rfl, ?_⟩; have n0_ := Aside0.mk (Kd.R_lower ho0 (below_size (by repeat (first | (with_reducible first | exact HB.out | apply below_alloc | apply pw_below_drewN | apply below_drew1) | exact HB.out)))); have n1_ := Aside0.mk (below_step (by repeat (first | (with_reducible first | exact HB.out | apply below_alloc | apply pw_below_drewN | apply below_drew1) | exact HB.out)) hb); clear HB; have HO192 := n0_; have HB := n1_; clear n0_ n1_; (try clear hb); (try clear hb2); (try clear hk); (try clear hi); (try clear ho0); obtain ⟨Ao13, co13, eo13⟩ := Kd.R_slice HO192.out; subst eo13) | ((with_reducible refine gate_callee (f := 19) rfl ?_); refine goesL_ (some 14) rfl rfl Try.func19 (by kernel_rfl) rfl #[.slice Ao13 t190.length co13] rfl (by (try simp only [List.map_toArray, List.map_cons, List.map_nil]); first | done | rfl | (simp only [List.length_drop, List.length_take]; rfl)) ?_; (with_reducible refine (spec_LargestRoom.calls k _ _ t190 t193 _ ?side1 ?side2 A5.out).mono ?_); (case side1 => repeat (first | exact (Kd.R_reads' HO192.out).2.2 | (with_reducible refine Kd.C_alloc ?_ _) | (with_reducible refine Kd.C_drewN ?_ _) | (with_reducible refine Kd.C_drew ?_))); (case side2 => exact (Kd.R_reads' HO192.out).2.1); rintro e w14 ⟨rfl, hb⟩; refine ⟨_, rfl, ?_⟩; have n0_ := Aside0.mk (Kd.R_below (by (with_reducible repeat (first | apply Kd.R_alloc | apply Kd.R_drewN | apply Kd.R_drew)); exact HO192.out) hb); have n1_ := Aside0.mk (below_step (by repeat (first | (with_reducible first | exact HB.out | apply below_alloc | apply pw_below_drewN | apply below_drew1) | exact HB.out)) hb); clear HO192; clear HB; have HO192 := n0_; have HB := n1_; clear n0_ n1_; (try clear hb); (try clear hb2); (try clear hk); (try clear hi)) | ((with_reducible refine gate_callee (f := 14) rfl ?_); refine goesL_ (some 16) rfl rfl Try.func14 (by kernel_rfl) rfl #[.slice A0 l0.length c0] rfl (by (try simp only [List.map_toArray, List.map_cons, List.map_nil]); first | done | rfl | (simp only [List.length_drop, List.length_take]; rfl)) ?_; (with_reducible refine (laws_toRoomS.calls k _ _ l0 t194 _ ?side1 ?side2 A6.out).mono ?_); (case side1 => repeat (first | exact (Kd.C_below HR0.out HB.out) | (with_reducible refine Kd.C_alloc ?_ _) | (with_reducible refine Kd.C_drewN ?_ _) | (with_reducible refine Kd.C_drew ?_))); (case side2 => exact HC0.out); rintro e w15 ⟨v195, rfl, ho0, hb⟩; refine ⟨_, rfl, ?_⟩; have n0_ := Aside0.mk (Kd.R_elder' (by (with_reducible repeat (first | apply Kd.R_alloc | apply Kd.R_drewN | apply Kd.R_drew)); exact HO192.out) (Kd.R_base ho0) hb); have n1_ := Aside0.mk (Kd.R_lower (Kd.R_new' ho0 (Kd.R_lt (by (with_reducible repeat (first | apply Kd.R_alloc | apply Kd.R_drewN | apply Kd.R_drew)); exact HO192.out))) (below_size (by repeat (first | (with_reducible first | exact HB.out | apply below_alloc | apply pw_below_drewN | apply below_drew1) | exact HB.out)))); have n2_ := Aside0.mk (below_step (by repeat (first | (with_reducible first | exact HB.out | apply below_alloc | apply pw_below_drewN | apply below_drew1) | exact HB.out)) hb); clear HO192; clear HB; have HO192 := n0_; have HO196 := n1_; have HB := n2_; clear n0_ n1_ n2_; (try clear hb); (try clear hb2); (try clear hk); (try clear hi); (try clear ho0); obtain ⟨Ao16, co16, eo16⟩ := Kd.R_slice HO196.out; subst eo16) | ((with_reducible refine gate_callee (f := 20) rfl ?_); refine goesL_ (some 18) rfl rfl Try.func20 (by kernel_rfl) rfl #[.slice Ao16 t194.length co16] rfl (by (try simp only [List.map_toArray, List.map_cons, List.map_nil]); first | done | rfl | (simp only [List.length_drop, List.length_take]; rfl)) ?_; (with_reducible refine (impl_LargestRoom.calls k _ _ t194 t197 _ ?side1 ?side2 A7.out).mono ?_); (case side1 => repeat (first | exact (Kd.R_reads' HO196.out).2.2 | (with_reducible refine Kd.C_alloc ?_ _) | (with_reducible refine Kd.C_drewN ?_ _) | (with_reducible refine Kd.C_drew ?_))); (case side2 => exact (Kd.R_reads' HO196.out).2.1); rintro e w17 ⟨rfl, hb⟩; refine ⟨_, rfl, ?_⟩; have n0_ := Aside0.mk (Kd.R_below (by (with_reducible repeat (first | apply Kd.R_alloc | apply Kd.R_drewN | apply Kd.R_drew)); exact HO192.out) hb); have n1_ := Aside0.mk (Kd.R_below (by (with_reducible repeat (first | apply Kd.R_alloc | apply Kd.R_drewN | apply Kd.R_drew)); exact HO196.out) hb); have n2_ := Aside0.mk (below_step (by repeat (first | (with_reducible first | exact HB.out | apply below_alloc | apply pw_below_drewN | apply below_drew1) | exact HB.out)) hb); clear HO192; clear HO196; clear HB; have HO192 := n0_; have HO196 := n1_; have HB := n2_; clear n0_ n1_ n2_; (try clear hb); (try clear hb2); (try clear hk); (try clear hi)) | ((with_reducible refine gate_callee (f := 14) rfl ?_); refine goesL_ (some 24) rfl rfl Try.func14 (by kernel_rfl) rfl #[.slice A0 l0.length c0] rfl (by (try simp only [List.map_toArray, List.map_cons, List.map_nil]); first | done | rfl | (simp only [List.length_drop, List.length_take]; rfl)) ?_; (with_reducible refine (laws_toRoomS.calls k _ _ l0 t198 _ ?side1 ?side2 A9.out).mono ?_); (case side1 => repeat (first | exact (Kd.C_below HR0.out HB.out) | (with_reducible refine Kd.C_alloc ?_ _) | (with_reducible refine Kd.C_drewN ?_ _) | (with_reducible refine Kd.C_drew ?_))); (case side2 => exact HC0.out); rintro e w18 ⟨v199, rfl, ho0, hb⟩; refine ⟨_, rfl, ?_⟩; have n0_ := Aside0.mk (Kd.R_elder' (by (with_reducible repeat (first | apply Kd.R_alloc | apply Kd.R_drewN | apply Kd.R_drew)); exact HO192.out) (Kd.R_base ho0) hb); have n1_ := Aside0.mk (Kd.R_elder' (by (with_reducible repeat (first | apply Kd.R_alloc | apply Kd.R_drewN | apply Kd.R_drew)); exact HO196.out) (Kd.R_base ho0) hb); have n2_ := Aside0.mk (Kd.R_lower (Kd.R_new' (Kd.R_new' ho0 (Kd.R_lt (by (with_reducible repeat (first | apply Kd.R_alloc | apply Kd.R_drewN | apply Kd.R_drew)); exact HO192.out))) (Kd.R_lt (by (with_reducible repeat (first | apply Kd.R_alloc | apply Kd.R_drewN | apply Kd.R_drew)); exact HO196.out))) (below_size (by repeat (first | (with_reducible first | exact HB.out | apply below_alloc | apply pw_below_drewN | apply below_drew1) | exact HB.out)))); have n3_ := Aside0.mk (below_step (by repeat (first | (with_reducible first | exact HB.out | apply below_alloc | apply pw_below_drewN | apply below_drew1) | exact HB.out)) hb); clear HO192; clear HO196; clear HB; have HO192 := n0_; have HO196 := n1_; have HO200 := n2_; have HB := n3_; clear n0_ n1_ n2_ n3_; (try clear hb); (try clear hb2); (try clear hk); (try clear hi); (try clear ho0); obtain ⟨Ao19, co19, eo19⟩ := Kd.R_slice HO200.out; subst eo19) | ((with_reducible refine gate_callee (f := 17) rfl ?_); refine goesL_ (some 25) rfl rfl Try.func17 (by kernel_rfl) rfl #[.slice Ao16 t194.length co16, .slice Ao19 t198.length co19] rfl (by (try simp only [List.map_toArray, List.map_cons, List.map_nil]); first | done | rfl | (simp only [List.length_drop, List.length_take]; rfl)) ?_; (with_reducible refine (laws_eqRoomS.calls k _ _ t194 _ _ t198 true _ ?side1 ?side2 ?side3 ?side4 A10.out).mono ?_); (case side1 => repeat (first | exact (Kd.R_reads' HO196.out).2.2 | (with_reducible refine Kd.C_alloc ?_ _) | (with_reducible refine Kd.C_drewN ?_ _) | (with_reducible refine Kd.C_drew ?_))); (case side2 => exact (Kd.R_reads' HO196.out).2.1); (case side3 => repeat (first | exact (Kd.R_reads' HO200.out).2.2 | (with_reducible refine Kd.C_alloc ?_ _) | (with_reducible refine Kd.C_drewN ?_ _) | (with_reducible refine Kd.C_drew ?_))); (case side4 => exact (Kd.R_reads' HO200.out).2.1); rintro e w20 ⟨rfl, hb⟩; refine ⟨_, rfl, ?_⟩; have n0_ := Aside0.mk (Kd.R_below (by (with_reducible repeat (first | apply Kd.R_alloc | apply Kd.R_drewN | apply Kd.R_drew)); exact HO192.out) hb); have n1_ := Aside0.mk (Kd.R_below (by (with_reducible repeat (first | apply Kd.R_alloc | apply Kd.R_drewN | apply Kd.R_drew)); exact HO196.out) hb); have n2_ := Aside0.mk (Kd.R_below (by (with_reducible repeat (first | apply Kd.R_alloc | apply Kd.R_drewN | apply Kd.R_drew)); exact HO200.out) hb); have n3_ := Aside0.mk (below_step (by repeat (first | (with_reducible first | exact HB.out | apply below_alloc | apply pw_below_drewN | apply below_drew1) | exact HB.out)) hb); clear HO192; clear HO196; clear HO200; clear HB; have HO192 := n0_; have HO196 := n1_; have HO200 := n2_; have HB := n3_; clear n0_ n1_ n2_ n3_; (try clear hb); (try clear hb2); (try clear hk); (try clear hi)))
    go_ret
    exact ⟨by first | rfl | (simp [errW_none, errW_some] <;> rfl) | (simp [*, errW_none, errW_some] <;> rfl), by repeat (first | (with_reducible first | exact HB.out | apply below_alloc | apply pw_below_drewN | apply below_drew1) | exact HB.out)⟩
   ·
    replace c11 := Bool.eq_false_iff.mpr c11
    subst c11
    have H1 : (some false) = some r := by rw [if_neg (show ¬ (false = true) by decide)] at H; exact H
    clear H
    have H := H1
    clear H1
    obtain rfl := Option.some.inj H
    go_enter Try.func4, Try.ntmps4
    go_wp2_with (first | ((with_reducible refine gate_callee (f := 12) rfl ?_); refine goesL_ (some 9) rfl rfl Try.func12 (by kernel_rfl) rfl #[.slice A0 l0.length c0, .int .i64 1048576] rfl (by (try simp only [List.map_toArray, List.map_cons, List.map_nil]); first | done | rfl | (simp only [List.length_drop, List.length_take]; rfl)) ?_; (with_reducible refine (laws_szRoomS.calls _ _ l0 1048576 t189 _ ?side1 ?side2 A2.out).mono ?_); (case side1 => repeat (first | exact HR0.out | (with_reducible refine Kd.C_alloc ?_ _) | (with_reducible refine Kd.C_drewN ?_ _) | (with_reducible refine Kd.C_drew ?_))); (case side2 => exact HC0.out); rintro e w' ⟨rfl, ⟨nd, rfl⟩⟩; refine ⟨_, rfl, ?_⟩) | ((with_reducible refine gate_callee (f := 14) rfl ?_); refine goesL_ (some 13) rfl rfl Try.func14 (by kernel_rfl) rfl #[.slice A0 l0.length c0] rfl (by (try simp only [List.map_toArray, List.map_cons, List.map_nil]); first | done | rfl | (simp only [List.length_drop, List.length_take]; rfl)) ?_; (with_reducible refine (laws_toRoomS.calls k _ _ l0 t190 _ ?side1 ?side2 A4.out).mono ?_); (case side1 => repeat (first | exact HR0.out | (with_reducible refine Kd.C_alloc ?_ _) | (with_reducible refine Kd.C_drewN ?_ _) | (with_reducible refine Kd.C_drew ?_))); (case side2 => exact HC0.out); rintro e w21 ⟨v191, rfl, ho0, hb⟩; refine ⟨_, rfl, ?_⟩; have n0_ := Aside0.mk (Kd.R_lower ho0 (below_size (by repeat (first | (with_reducible first | exact HB.out | apply below_alloc | apply pw_below_drewN | apply below_drew1) | exact HB.out)))); have n1_ := Aside0.mk (below_step (by repeat (first | (with_reducible first | exact HB.out | apply below_alloc | apply pw_below_drewN | apply below_drew1) | exact HB.out)) hb); clear HB; have HO192 := n0_; have HB := n1_; clear n0_ n1_; (try clear hb); (try clear hb2); (try clear hk); (try clear hi); (try clear ho0); obtain ⟨Ao22, co22, eo22⟩ := Kd.R_slice HO192.out; subst eo22) | ((with_reducible refine gate_callee (f := 19) rfl ?_); refine goesL_ (some 14) rfl rfl Try.func19 (by kernel_rfl) rfl #[.slice Ao22 t190.length co22] rfl (by (try simp only [List.map_toArray, List.map_cons, List.map_nil]); first | done | rfl | (simp only [List.length_drop, List.length_take]; rfl)) ?_; (with_reducible refine (spec_LargestRoom.calls k _ _ t190 t193 _ ?side1 ?side2 A5.out).mono ?_); (case side1 => repeat (first | exact (Kd.R_reads' HO192.out).2.2 | (with_reducible refine Kd.C_alloc ?_ _) | (with_reducible refine Kd.C_drewN ?_ _) | (with_reducible refine Kd.C_drew ?_))); (case side2 => exact (Kd.R_reads' HO192.out).2.1); rintro e w23 ⟨rfl, hb⟩; refine ⟨_, rfl, ?_⟩; have n0_ := Aside0.mk (Kd.R_below (by (with_reducible repeat (first | apply Kd.R_alloc | apply Kd.R_drewN | apply Kd.R_drew)); exact HO192.out) hb); have n1_ := Aside0.mk (below_step (by repeat (first | (with_reducible first | exact HB.out | apply below_alloc | apply pw_below_drewN | apply below_drew1) | exact HB.out)) hb); clear HO192; clear HB; have HO192 := n0_; have HB := n1_; clear n0_ n1_; (try clear hb); (try clear hb2); (try clear hk); (try clear hi)) | ((with_reducible refine gate_callee (f := 14) rfl ?_); refine goesL_ (some 16) rfl rfl Try.func14 (by kernel_rfl) rfl #[.slice A0 l0.length c0] rfl (by (try simp only [List.map_toArray, List.map_cons, List.map_nil]); first | done | rfl | (simp only [List.length_drop, List.length_take]; rfl)) ?_; (with_reducible refine (laws_toRoomS.calls k _ _ l0 t194 _ ?side1 ?side2 A6.out).mono ?_); (case side1 => repeat (first | exact (Kd.C_below HR0.out HB.out) | (with_reducible refine Kd.C_alloc ?_ _) | (with_reducible refine Kd.C_drewN ?_ _) | (with_reducible refine Kd.C_drew ?_))); (case side2 => exact HC0.out); rintro e w24 ⟨v195, rfl, ho0, hb⟩; refine ⟨_, rfl, ?_⟩; have n0_ := Aside0.mk (Kd.R_elder' (by (with_reducible repeat (first | apply Kd.R_alloc | apply Kd.R_drewN | apply Kd.R_drew)); exact HO192.out) (Kd.R_base ho0) hb); have n1_ := Aside0.mk (Kd.R_lower (Kd.R_new' ho0 (Kd.R_lt (by (with_reducible repeat (first | apply Kd.R_alloc | apply Kd.R_drewN | apply Kd.R_drew)); exact HO192.out))) (below_size (by repeat (first | (with_reducible first | exact HB.out | apply below_alloc | apply pw_below_drewN | apply below_drew1) | exact HB.out)))); have n2_ := Aside0.mk (below_step (by repeat (first | (with_reducible first | exact HB.out | apply below_alloc | apply pw_below_drewN | apply below_drew1) | exact HB.out)) hb); clear HO192; clear HB; have HO192 := n0_; have HO196 := n1_; have HB := n2_; clear n0_ n1_ n2_; (try clear hb); (try clear hb2); (try clear hk); (try clear hi); (try clear ho0); obtain ⟨Ao25, co25, eo25⟩ := Kd.R_slice HO196.out; subst eo25) | ((with_reducible refine gate_callee (f := 20) rfl ?_); refine goesL_ (some 18) rfl rfl Try.func20 (by kernel_rfl) rfl #[.slice Ao25 t194.length co25] rfl (by (try simp only [List.map_toArray, List.map_cons, List.map_nil]); first | done | rfl | (simp only [List.length_drop, List.length_take]; rfl)) ?_; (with_reducible refine (impl_LargestRoom.calls k _ _ t194 t197 _ ?side1 ?side2 A7.out).mono ?_); (case side1 => repeat (first | exact (Kd.R_reads' HO196.out).2.2 | (with_reducible refine Kd.C_alloc ?_ _) | (with_reducible refine Kd.C_drewN ?_ _) | (with_reducible refine Kd.C_drew ?_))); (case side2 => exact (Kd.R_reads' HO196.out).2.1); rintro e w26 ⟨rfl, hb⟩; refine ⟨_, rfl, ?_⟩; have n0_ := Aside0.mk (Kd.R_below (by (with_reducible repeat (first | apply Kd.R_alloc | apply Kd.R_drewN | apply Kd.R_drew)); exact HO192.out) hb); have n1_ := Aside0.mk (Kd.R_below (by (with_reducible repeat (first | apply Kd.R_alloc | apply Kd.R_drewN | apply Kd.R_drew)); exact HO196.out) hb); have n2_ := Aside0.mk (below_step (by repeat (first | (with_reducible first | exact HB.out | apply below_alloc | apply pw_below_drewN | apply below_drew1) | exact HB.out)) hb); clear HO192; clear HO196; clear HB; have HO192 := n0_; have HO196 := n1_; have HB := n2_; clear n0_ n1_ n2_; (try clear hb); (try clear hb2); (try clear hk); (try clear hi)) | ((with_reducible refine gate_callee (f := 14) rfl ?_); refine goesL_ (some 24) rfl rfl Try.func14 (by kernel_rfl) rfl #[.slice A0 l0.length c0] rfl (by (try simp only [List.map_toArray, List.map_cons, List.map_nil]); first | done | rfl | (simp only [List.length_drop, List.length_take]; rfl)) ?_; (with_reducible refine (laws_toRoomS.calls k _ _ l0 t198 _ ?side1 ?side2 A9.out).mono ?_); (case side1 => repeat (first | exact (Kd.C_below HR0.out HB.out) | (with_reducible refine Kd.C_alloc ?_ _) | (with_reducible refine Kd.C_drewN ?_ _) | (with_reducible refine Kd.C_drew ?_))); (case side2 => exact HC0.out); rintro e w27 ⟨v199, rfl, ho0, hb⟩; refine ⟨_, rfl, ?_⟩; have n0_ := Aside0.mk (Kd.R_elder' (by (with_reducible repeat (first | apply Kd.R_alloc | apply Kd.R_drewN | apply Kd.R_drew)); exact HO192.out) (Kd.R_base ho0) hb); have n1_ := Aside0.mk (Kd.R_elder' (by (with_reducible repeat (first | apply Kd.R_alloc | apply Kd.R_drewN | apply Kd.R_drew)); exact HO196.out) (Kd.R_base ho0) hb); have n2_ := Aside0.mk (Kd.R_lower (Kd.R_new' (Kd.R_new' ho0 (Kd.R_lt (by (with_reducible repeat (first | apply Kd.R_alloc | apply Kd.R_drewN | apply Kd.R_drew)); exact HO192.out))) (Kd.R_lt (by (with_reducible repeat (first | apply Kd.R_alloc | apply Kd.R_drewN | apply Kd.R_drew)); exact HO196.out))) (below_size (by repeat (first | (with_reducible first | exact HB.out | apply below_alloc | apply pw_below_drewN | apply below_drew1) | exact HB.out)))); have n3_ := Aside0.mk (below_step (by repeat (first | (with_reducible first | exact HB.out | apply below_alloc | apply pw_below_drewN | apply below_drew1) | exact HB.out)) hb); clear HO192; clear HO196; clear HB; have HO192 := n0_; have HO196 := n1_; have HO200 := n2_; have HB := n3_; clear n0_ n1_ n2_ n3_; (try clear hb); (try clear hb2); (try clear hk); (try clear hi); (try clear ho0); obtain ⟨Ao28, co28, eo28⟩ := Kd.R_slice HO200.out; subst eo28) | ((with_reducible refine gate_callee (f := 17) rfl ?_); refine goesL_ (some 25) rfl rfl Try.func17 (by kernel_rfl) rfl #[.slice Ao25 t194.length co25, .slice Ao28 t198.length co28] rfl (by (try simp only [List.map_toArray, List.map_cons, List.map_nil]); first | done | rfl | (simp only [List.length_drop, List.length_take]; rfl)) ?_; (with_reducible refine (laws_eqRoomS.calls k _ _ t194 _ _ t198 false _ ?side1 ?side2 ?side3 ?side4 A10.out).mono ?_); (case side1 => repeat (first | exact (Kd.R_reads' HO196.out).2.2 | (with_reducible refine Kd.C_alloc ?_ _) | (with_reducible refine Kd.C_drewN ?_ _) | (with_reducible refine Kd.C_drew ?_))); (case side2 => exact (Kd.R_reads' HO196.out).2.1); (case side3 => repeat (first | exact (Kd.R_reads' HO200.out).2.2 | (with_reducible refine Kd.C_alloc ?_ _) | (with_reducible refine Kd.C_drewN ?_ _) | (with_reducible refine Kd.C_drew ?_))); (case side4 => exact (Kd.R_reads' HO200.out).2.1); rintro e w29 ⟨rfl, hb⟩; refine ⟨_, rfl, ?_⟩; have n0_ := Aside0.mk (Kd.R_below (by (with_reducible repeat (first | apply Kd.R_alloc | apply Kd.R_drewN | apply Kd.R_drew)); exact HO192.out) hb); have n1_ := Aside0.mk (Kd.R_below (by (with_reducible repeat (first | apply Kd.R_alloc | apply Kd.R_drewN | apply Kd.R_drew)); exact HO196.out) hb); have n2_ := Aside0.mk (Kd.R_below (by (with_reducible repeat (first | apply Kd.R_alloc | apply Kd.R_drewN | apply Kd.R_drew)); exact HO200.out) hb); have n3_ := Aside0.mk (below_step (by repeat (first | (with_reducible first | exact HB.out | apply below_alloc | apply pw_below_drewN | apply below_drew1) | exact HB.out)) hb); clear HO192; clear HO196; clear HO200; clear HB; have HO192 := n0_; have HO196 := n1_; have HO200 := n2_; have HB := n3_; clear n0_ n1_ n2_ n3_; (try clear hb); (try clear hb2); (try clear hk); (try clear hi)))
    go_ret
    exact ⟨by first | rfl | (simp [errW_none, errW_some] <;> rfl) | (simp [*, errW_none, errW_some] <;> rfl), by repeat (first | (with_reducible first | exact HB.out | apply below_alloc | apply pw_below_drewN | apply below_drew1) | exact HB.out)⟩
  ·
   rw [if_neg c8] at H
   have c8b0 : (t197 == t193) = false := beq_eq_false_iff_ne.mpr c8
   have c8b1 : (t197 != t193) = true := bne_iff_ne.mpr c8
   obtain rfl := Option.some.inj H
   go_enter Try.func4, Try.ntmps4
   go_wp2_with (first | ((with_reducible refine gate_callee (f := 12) rfl ?_); refine goesL_ (some 9) rfl rfl Try.func12 (by kernel_rfl) rfl #[.slice A0 l0.length c0, .int .i64 1048576] rfl (by (try simp only [List.map_toArray, List.map_cons, List.map_nil]); first | done | rfl | (simp only [List.length_drop, List.length_take]; rfl)) ?_; (with_reducible refine (laws_szRoomS.calls _ _ l0 1048576 t189 _ ?side1 ?side2 A2.out).mono ?_); (case side1 => repeat (first | exact HR0.out | (with_reducible refine Kd.C_alloc ?_ _) | (with_reducible refine Kd.C_drewN ?_ _) | (with_reducible refine Kd.C_drew ?_))); (case side2 => exact HC0.out); rintro e w' ⟨rfl, ⟨nd, rfl⟩⟩; refine ⟨_, rfl, ?_⟩) | ((with_reducible refine gate_callee (f := 14) rfl ?_); refine goesL_ (some 13) rfl rfl Try.func14 (by kernel_rfl) rfl #[.slice A0 l0.length c0] rfl (by (try simp only [List.map_toArray, List.map_cons, List.map_nil]); first | done | rfl | (simp only [List.length_drop, List.length_take]; rfl)) ?_; (with_reducible refine (laws_toRoomS.calls k _ _ l0 t190 _ ?side1 ?side2 A4.out).mono ?_); (case side1 => repeat (first | exact HR0.out | (with_reducible refine Kd.C_alloc ?_ _) | (with_reducible refine Kd.C_drewN ?_ _) | (with_reducible refine Kd.C_drew ?_))); (case side2 => exact HC0.out); rintro e w30 ⟨v191, rfl, ho0, hb⟩; refine ⟨_, rfl, ?_⟩; have n0_ := Aside0.mk (Kd.R_lower ho0 (below_size (by repeat (first | (with_reducible first | exact HB.out | apply below_alloc | apply pw_below_drewN | apply below_drew1) | exact HB.out)))); have n1_ := Aside0.mk (below_step (by repeat (first | (with_reducible first | exact HB.out | apply below_alloc | apply pw_below_drewN | apply below_drew1) | exact HB.out)) hb); clear HB; have HO192 := n0_; have HB := n1_; clear n0_ n1_; (try clear hb); (try clear hb2); (try clear hk); (try clear hi); (try clear ho0); obtain ⟨Ao31, co31, eo31⟩ := Kd.R_slice HO192.out; subst eo31) | ((with_reducible refine gate_callee (f := 19) rfl ?_); refine goesL_ (some 14) rfl rfl Try.func19 (by kernel_rfl) rfl #[.slice Ao31 t190.length co31] rfl (by (try simp only [List.map_toArray, List.map_cons, List.map_nil]); first | done | rfl | (simp only [List.length_drop, List.length_take]; rfl)) ?_; (with_reducible refine (spec_LargestRoom.calls k _ _ t190 t193 _ ?side1 ?side2 A5.out).mono ?_); (case side1 => repeat (first | exact (Kd.R_reads' HO192.out).2.2 | (with_reducible refine Kd.C_alloc ?_ _) | (with_reducible refine Kd.C_drewN ?_ _) | (with_reducible refine Kd.C_drew ?_))); (case side2 => exact (Kd.R_reads' HO192.out).2.1); rintro e w32 ⟨rfl, hb⟩; refine ⟨_, rfl, ?_⟩; have n0_ := Aside0.mk (Kd.R_below (by (with_reducible repeat (first | apply Kd.R_alloc | apply Kd.R_drewN | apply Kd.R_drew)); exact HO192.out) hb); have n1_ := Aside0.mk (below_step (by repeat (first | (with_reducible first | exact HB.out | apply below_alloc | apply pw_below_drewN | apply below_drew1) | exact HB.out)) hb); clear HO192; clear HB; have HO192 := n0_; have HB := n1_; clear n0_ n1_; (try clear hb); (try clear hb2); (try clear hk); (try clear hi)) | ((with_reducible refine gate_callee (f := 14) rfl ?_); refine goesL_ (some 16) rfl rfl Try.func14 (by kernel_rfl) rfl #[.slice A0 l0.length c0] rfl (by (try simp only [List.map_toArray, List.map_cons, List.map_nil]); first | done | rfl | (simp only [List.length_drop, List.length_take]; rfl)) ?_; (with_reducible refine (laws_toRoomS.calls k _ _ l0 t194 _ ?side1 ?side2 A6.out).mono ?_); (case side1 => repeat (first | exact (Kd.C_below HR0.out HB.out) | (with_reducible refine Kd.C_alloc ?_ _) | (with_reducible refine Kd.C_drewN ?_ _) | (with_reducible refine Kd.C_drew ?_))); (case side2 => exact HC0.out); rintro e w33 ⟨v195, rfl, ho0, hb⟩; refine ⟨_, rfl, ?_⟩; have n0_ := Aside0.mk (Kd.R_elder' (by (with_reducible repeat (first | apply Kd.R_alloc | apply Kd.R_drewN | apply Kd.R_drew)); exact HO192.out) (Kd.R_base ho0) hb); have n1_ := Aside0.mk (Kd.R_lower (Kd.R_new' ho0 (Kd.R_lt (by (with_reducible repeat (first | apply Kd.R_alloc | apply Kd.R_drewN | apply Kd.R_drew)); exact HO192.out))) (below_size (by repeat (first | (with_reducible first | exact HB.out | apply below_alloc | apply pw_below_drewN | apply below_drew1) | exact HB.out)))); have n2_ := Aside0.mk (below_step (by repeat (first | (with_reducible first | exact HB.out | apply below_alloc | apply pw_below_drewN | apply below_drew1) | exact HB.out)) hb); clear HO192; clear HB; have HO192 := n0_; have HO196 := n1_; have HB := n2_; clear n0_ n1_ n2_; (try clear hb); (try clear hb2); (try clear hk); (try clear hi); (try clear ho0); obtain ⟨Ao34, co34, eo34⟩ := Kd.R_slice HO196.out; subst eo34) | ((with_reducible refine gate_callee (f := 20) rfl ?_); refine goesL_ (some 18) rfl rfl Try.func20 (by kernel_rfl) rfl #[.slice Ao34 t194.length co34] rfl (by (try simp only [List.map_toArray, List.map_cons, List.map_nil]); first | done | rfl | (simp only [List.length_drop, List.length_take]; rfl)) ?_; (with_reducible refine (impl_LargestRoom.calls k _ _ t194 t197 _ ?side1 ?side2 A7.out).mono ?_); (case side1 => repeat (first | exact (Kd.R_reads' HO196.out).2.2 | (with_reducible refine Kd.C_alloc ?_ _) | (with_reducible refine Kd.C_drewN ?_ _) | (with_reducible refine Kd.C_drew ?_))); (case side2 => exact (Kd.R_reads' HO196.out).2.1); rintro e w35 ⟨rfl, hb⟩; refine ⟨_, rfl, ?_⟩; have n0_ := Aside0.mk (Kd.R_below (by (with_reducible repeat (first | apply Kd.R_alloc | apply Kd.R_drewN | apply Kd.R_drew)); exact HO192.out) hb); have n1_ := Aside0.mk (Kd.R_below (by (with_reducible repeat (first | apply Kd.R_alloc | apply Kd.R_drewN | apply Kd.R_drew)); exact HO196.out) hb); have n2_ := Aside0.mk (below_step (by repeat (first | (with_reducible first | exact HB.out | apply below_alloc | apply pw_below_drewN | apply below_drew1) | exact HB.out)) hb); clear HO192; clear HO196; clear HB; have HO192 := n0_; have HO196 := n1_; have HB := n2_; clear n0_ n1_ n2_; (try clear hb); (try clear hb2); (try clear hk); (try clear hi)))
   go_ret
   exact ⟨by first | rfl | (simp [errW_none, errW_some] <;> rfl) | (simp [*, errW_none, errW_some] <;> rfl), by repeat (first | (with_reducible first | exact HB.out | apply below_alloc | apply pw_below_drewN | apply below_drew1) | exact HB.out)⟩
end Go.Proofs.Ytadcndmhdbhfkaa.A
end

section
set_option linter.unusedVariables false
namespace Go.Proofs.Ytadcndmhdbhfkaa.Open
open Go.ChangeShapes Go.WideShapes Go.Deep Go.RowKit Go.Proofs.YtadcndmhdbhfkaaW.PrintWords
def Opn (P : Program) (t : TypeId) {α : Type} (d : Kd α) : Prop :=
  ∀ (H : Type) (enc : TypeId × Value → H) (w : World) (base : Nat) (spare : Nat → Bool) (held : Bool) (fuel : Nat) (cs : List Value) (y : DataW H × List MemPlace),
    DataW.trod enc P w base spare held fuel t cs = some y → ∃ x : α, d.K w x cs
def OpnL (P : Program) (fs : List Field) {α : Type} (d : Kd α) : Prop :=
  ∀ (H : Type) (enc : TypeId × Value → H) (w : World) (base : Nat) (spare : Nat → Bool) (held : Bool) (cs : List Value), cs.length = fs.length →
    (∀ (j : Nat) (f : Field) (c : Value), fs[j]? = some f → cs[j]? = some c → ∃ (n : Nat) (y : DataW H × List MemPlace), DataW.trod enc P w base spare held n f.type [c] = some y) → ∃ x : α, d.K w x cs
theorem opn_int {P : Program} {t : TypeId} {k : IntKind} (ht : P.underlying t = some (.int k)) : Opn P t (Kd.int k) := by
  intro H enc w base spare held fuel cs y h
  obtain ⟨n, rfl, _⟩ := DataW.trod_int ht h
  exact ⟨n, rfl⟩
theorem opnL_one {P : Program} {f : Field} {α : Type} {d : Kd α} (h : Opn P f.type d) : OpnL P [f] d := by
  intro H enc w base spare held cs hl hf
  match cs, hl with
  | [c], _ =>
    obtain ⟨n, y, hy⟩ := hf 0 f c rfl rfl
    exact h H enc w base spare held n [c] y hy
theorem opnL_cons {P : Program} {f : Field} {fs : List Field} {α β : Type} {a : Kd α} {b : Kd β} (h : Opn P f.type a) (hs : OpnL P fs b) : OpnL P (f :: fs) (Kd.pair a b) := by
  intro H enc w base spare held cs hl hf
  match cs, hl with
  | c :: cs, hl =>
    obtain ⟨n, y, hy⟩ := hf 0 f c rfl rfl
    obtain ⟨x, hx⟩ := h H enc w base spare held n [c] y hy
    obtain ⟨z, hz⟩ := hs H enc w base spare held cs (by simpa using hl) (fun j f' c' h1 h2 => hf (j + 1) f' c' (by simpa using h1) (by simpa using h2))
    exact ⟨(x, z), [c], cs, rfl, hx, hz⟩
theorem opn_struct {P : Program} {t : TypeId} {fs : Array Field} (ht : P.underlying t = some (.struct fs)) (hone : oneCellFields P fs = true) (hC : P.cellsOf t = fs.size)
    {α : Type} {d : Kd α} (hL : OpnL P fs.toList d) : Opn P t d := by
  intro H enc w base spare held fuel cs y h
  obtain ⟨xs, n, _, _, hlen, hxl, hf⟩ := DataW.trod_struct ht h
  refine hL H enc w base spare held cs (by rw [hlen, hC, Array.length_toList]) (fun j f c hj hc => ?_)
  have hj' : fs[j]? = some f := by simpa using hj
  obtain ⟨ho, hk⟩ := hone_of hone j f hj'
  have h1 := hf j f hj'
  rw [ho, hk] at h1
  have hjl : j < fs.size := (Array.getElem?_eq_some_iff.1 hj').1
  have hcl : j < cs.length := (List.getElem?_eq_some_iff.1 hc).1
  have e1 : (cs.drop j).take 1 = [c] := by
    rw [List.drop_eq_getElem_cons hcl]
    have : cs[j] = c := (List.getElem?_eq_some_iff.1 hc).2
    rw [this]; rfl
  rw [e1] at h1
  exact ⟨n, xs[j]'(by omega), h1.trans (List.getElem?_eq_getElem (by omega))⟩
theorem opn_iso {P : Program} {t : TypeId} {α β : Type} {d : Kd α} {f : β → α} (h : Opn P t d) (hs : ∀ a, ∃ b, f b = a) : Opn P t (Kd.iso d f) := by
  intro H enc w base spare held fuel cs y hy
  obtain ⟨x, hx⟩ := h H enc w base spare held fuel cs y hy
  obtain ⟨z, rfl⟩ := hs x
  exact ⟨z, hx⟩
theorem list_of {α : Type} {p : Nat → α → Prop} : ∀ n, (∀ i, i < n → ∃ x, p i x) → ∃ l : List α, l.length = n ∧ ∀ i x, l[i]? = some x → p i x
  | 0, _ => ⟨[], rfl, fun i x h => by simp at h⟩
  | n + 1, h => by
    obtain ⟨l, hl, hp⟩ := list_of n (fun i hi => h i (by omega))
    obtain ⟨x, hx⟩ := h n (by omega)
    refine ⟨l ++ [x], by simp [hl], fun i y hy => ?_⟩
    rcases Nat.lt_or_ge i l.length with hi | hi
    · rw [List.getElem?_append_left hi] at hy
      exact hp i y hy
    · have hi' : i = l.length := by
        have := (List.getElem?_eq_some_iff.1 hy).1
        rw [List.length_append, List.length_singleton] at this
        omega
      subst hi'
      have : x = y := by simpa using hy
      subst this
      rw [hl]
      exact hx
theorem opn_slice {P : Program} {t e : TypeId} {α : Type} {d : Kd α} (ht : P.underlying t = some (.slice e)) (hC : P.cellsOf e = d.sz) (he : Opn P e d) : Opn P t (Kd.slice e d) := by
  intro H enc w base spare held fuel cs y h
  rcases open_slice ht h with ⟨rfl, _⟩ | ⟨a, len, cap, m, n, D, Pl, rfl, hb, hl, hm, hmm, hx, hi⟩
  · exact ⟨[], none, 0, rfl, Nat.le_refl _, rfl, by simp, fun h => absurd h (by simp)⟩
  · have hlm : len ≤ m := by rw [hmm]; split <;> omega
    obtain ⟨xs, hxl, hp⟩ := list_of (p := fun i x => ∃ cs', w.cells? base (a.add (i * P.cellsOf e)) (P.cellsOf e) = some cs' ∧ d.K w x cs') len (fun i hil => by
      obtain ⟨cs', h1, h2⟩ := hi i (by omega)
      obtain ⟨x, hx⟩ := he H enc w base spare held n cs' _ h2
      exact ⟨x, cs', h1, hx⟩)
    refine ⟨xs, some a, cap, by rw [hxl], by omega, rfl, by unfold maxLen at hm; omega, fun _ => ⟨a, rfl, fun j p hj => ?_⟩⟩
    obtain ⟨cs', hc, hk⟩ := hp j p hj
    obtain ⟨_, hcl, hat⟩ := World.cells?_some hc
    refine ⟨cs', d.K_len hk, hk, fun i u hu => ?_⟩
    have hil : i < cs'.length := (List.getElem?_eq_some_iff.1 hu).1
    have := hat i (by omega)
    rw [Go.Deep.add_add, hC] at this
    rw [this]
    exact hu
theorem opened {H : Type} {enc : TypeId × Value → H} {P : Program} {W : World} {base : Nat} {spare : Nat → Bool} {held : Bool} {t e : TypeId} {α : Type} {d : Kd α} (h : Opn P t (Kd.slice e d)) {a : Option Addr} {len cap : Nat} {dd : DataW H} {ps : List MemPlace}
    (ht : DataW.Trod enc P W base spare held t (.slice a len cap) dd ps) : ∃ l : List α, l.length = len ∧ l.length ≤ cap ∧ d.C W a l.length l := by
  obtain ⟨fuel, hf⟩ := ht
  obtain ⟨l, A, c, he, hl, hc⟩ := h H enc W base spare held fuel _ _ hf
  simp [Value.cells] at he
  obtain ⟨rfl, rfl, rfl⟩ := he
  exact ⟨l, rfl, hl, hc⟩
end Go.Proofs.Ytadcndmhdbhfkaa.Open
end

section
set_option linter.unusedVariables false
set_option linter.unusedSimpArgs false
namespace Go.Proofs.Ytadcndmhdbhfkaa.L
open Go Go.RowKit Go.Proofs.YtadcndmhdbhfkaaW.PrintWords
theorem Ev.pos {α : Type} {c : Prop} [Decidable c] {A B : Nat → Option α} {r : α} (h : c) (k : Ev A r) : Ev (fun k => if c then A k else B k) r := by
  obtain ⟨K, k⟩ := k
  exact ⟨K, fun n hn => by show (if c then A n else B n) = some r; rw [if_pos h]; exact k n hn⟩
theorem Ev.neg {α : Type} {c : Prop} [Decidable c] {A B : Nat → Option α} {r : α} (h : ¬ c) (k : Ev B r) : Ev (fun k => if c then A k else B k) r := by
  obtain ⟨K, k⟩ := k
  exact ⟨K, fun n hn => by show (if c then A n else B n) = some r; rw [if_neg h]; exact k n hn⟩
theorem Ev.ite {α : Type} {c : Prop} [Decidable c] {A B : Nat → Option α} {r : α} (h : c → Ev A r) (k : ¬ c → Ev B r) : Ev (fun k => if c then A k else B k) r := by
  by_cases e : c
  · exact Ev.pos e (h e)
  · exact Ev.neg e (k e)
theorem Ev.cast {α : Type} {g : Nat → Option α} {r r' : α} (h : Ev g r) (e : r = r') : Ev g r' := e ▸ h
theorem Ev.bnd {α β : Type} {o : Option α} {a : α} {f : Nat → α → Option β} {r : β} (h : o = some a) (k : Ev (fun n => f n a) r) : Ev (fun n => o.bind (f n)) r := by
  obtain ⟨K, k⟩ := k
  exact ⟨K, fun n hn => by show o.bind (f n) = some r; rw [h]; exact k n hn⟩
theorem Ev.some_ {α : Type} {r r' : α} (h : r = r') : Ev (fun _ => some r) r' := h ▸ Ev.now r
theorem w64 {x : Int} (h0 : -9223372036854775808 ≤ x) (h1 : x ≤ 9223372036854775807) : wrap64 x = x := by
  unfold wrap64
  omega
theorem w64s {n : Nat} (h : n < 4611686018427387904) : wrap64 ((n : Int) + 1) = ((n + 1 : Nat) : Int) := by
  unfold wrap64
  omega
theorem w64p {n : Nat} (h : n < 4611686018427387904) : wrap64 (((n + 1 : Nat) : Int) - 1) = (n : Int) := by
  unfold wrap64
  omega
theorem rd_at {l : List Int} {n : Nat} (h : n < l.length) : rd l (n : Int) = l[n] := by
  simp [rd, h]
def inR (a b c : Int) : Bool := decide (b ≤ a ∧ a ≤ c)
theorem inR_iff {a b c : Int} : inR a b c = true ↔ b ≤ a ∧ a ≤ c := by simp [inR]
end Go.Proofs.Ytadcndmhdbhfkaa.L
end

section
set_option linter.unusedVariables false
set_option linter.unusedSimpArgs false
namespace Go.Proofs.Ytadcndmhdbhfkaa.L
open Go Go.RowKit Go.Proofs.Ytadcndmhdbhfkaa.A Go.Proofs.YtadcndmhdbhfkaaW.PrintWords
theorem l1In_eq (a b c : Int) : spec_l1In.f a b c = some (inR a b c) := by
  unfold spec_l1In.f inR
  by_cases h : a ≥ b
  · rw [if_pos h]; congr 1; simp; omega
  · rw [if_neg h]; congr 1; simp; omega
end Go.Proofs.Ytadcndmhdbhfkaa.L
end

section
set_option linter.unusedVariables false
set_option linter.unusedSimpArgs false
namespace Go.Proofs.Ytadcndmhdbhfkaa.L
open Go Go.RowKit Go.Proofs.Ytadcndmhdbhfkaa.A Go.Proofs.YtadcndmhdbhfkaaW.PrintWords
theorem InRange_eq (a b c : Int) : impl_InRange.f a b c = some (inR a b c) := by
  unfold impl_InRange.f inR
  by_cases h : b ≤ a
  · rw [if_pos h]; congr 1; simp; omega
  · rw [if_neg h]; congr 1; simp; omega
end Go.Proofs.Ytadcndmhdbhfkaa.L
end

section
set_option linter.unusedVariables false
set_option linter.unusedSimpArgs false
namespace Go.Proofs.Ytadcndmhdbhfkaa.L
open Go Go.RowKit Go.Proofs.Ytadcndmhdbhfkaa.A Go.Proofs.YtadcndmhdbhfkaaW.PrintWords
theorem rdLRoom {l : List S77} {n : Nat} (h : n < l.length) : rd_T77 l (n : Int) = l[n] := by
  simp [rd_T77, h]
theorem rdRoom {l : List S73} {n : Nat} (h : n < l.length) : rd_T73 l (n : Int) = l[n] := by
  simp [rd_T73, h]
def cvRoom (x : S77) : S73 := ⟨x.f0, x.f1⟩
theorem toRoomS_l0 (l : List S77) (hl : l.length ≤ 1099511627776) : ∀ (d n : Nat) (xs : List S73), n + d = l.length → xs.length = l.length → xs.take n = (l.map cvRoom).take n → Ev (fun k => laws_toRoomS.l0 k l xs (n : Int)) (l.map cvRoom) := by
  intro d
  induction d with
  | zero =>
    intro n xs hd hx ht
    refine Ev.step (fun k => laws_toRoomS.l0.eq_2 ..) ?_
    refine Ev.neg (by omega) (Ev.some_ ?_)
    rw [List.take_of_length_le (by omega), List.take_of_length_le (by simp; omega)] at ht
    exact ht
  | succ d ih =>
    intro n xs hd hx ht
    refine Ev.step (fun k => laws_toRoomS.l0.eq_2 ..) ?_
    refine Ev.pos (by omega) (Ev.pos (by omega) ?_)
    simp only [laws_toRoom.f, Option.bind_some]
    refine Ev.pos (by omega) ?_
    simp only [w64s (show n < 4611686018427387904 by omega), rdLRoom (show n < l.length by omega), Int.toNat_natCast]
    refine ih (n + 1) _ (by omega) (by simp [hx]) ?_
    rw [List.take_succ_eq_append_getElem (by simp; omega), List.take_succ_eq_append_getElem (by simp; omega), List.take_set_of_le (by omega), ht]
    simp [cvRoom]
theorem toRoomS_ev (l : List S77) (hl : l.length ≤ 1099511627776) : Ev (fun k => laws_toRoomS.f k l) (l.map cvRoom) := by
  unfold laws_toRoomS.f
  refine Ev.pos (by omega) (Ev.pos (by simp; omega) ?_)
  exact toRoomS_l0 l hl l.length 0 _ (by omega) (by simp) (by simp)
theorem eqRoom_same (x : S73) : laws_eqRoom.f x.f0 x.f1 x.f0 x.f1 = some true := by simp [laws_eqRoom.f]
theorem eqRoomS_l0 (l : List S73) (hl : l.length ≤ 1099511627776) : ∀ (d n : Nat), n + d = l.length → Ev (fun k => laws_eqRoomS.l0 k l l (n : Int)) true := by
  intro d
  induction d with
  | zero =>
    intro n hd
    refine Ev.step (fun k => laws_eqRoomS.l0.eq_2 ..) ?_
    exact Ev.neg (by omega) (Ev.now _)
  | succ d ih =>
    intro n hd
    refine Ev.step (fun k => laws_eqRoomS.l0.eq_2 ..) ?_
    refine Ev.pos (by omega) (Ev.pos (by omega) (Ev.pos (by omega) ?_))
    simp only [w64s (show n < 4611686018427387904 by omega), rdRoom (show n < l.length by omega), eqRoom_same, Option.bind_some]
    exact Ev.pos trivial (ih (n + 1) (by omega))
theorem eqRoomS_ev (l : List S73) (hl : l.length ≤ 1099511627776) : Ev (fun k => laws_eqRoomS.f k l l) true := by
  unfold laws_eqRoomS.f
  exact Ev.pos rfl (eqRoomS_l0 l hl l.length 0 (by omega))
theorem szRoomS_eq (l : List S77) (left : Int) (h0 : 0 ≤ left) (h1 : left ≤ 1048576) (hl : l.length ≤ 9223372036854775807) : laws_szRoomS.f l left = some (if left - l.length < 0 then -1 else left - l.length) := by
  unfold laws_szRoomS.f
  rw [w64 (by omega) (by omega)]
  split <;> rfl
def roomsF (p : Int) : List S73 → Bool
  | [] => true
  | r :: l => inR r.f0 1 99 && decide (p < r.f0) && inR r.f1 1 1000 && roomsF r.f0 l
def okRooms (l : List S73) : Bool := roomsF 0 l && decide ((l.length : Int) ≤ 20)
theorem sAreRooms_l0 (l : List S73) (hl : l.length ≤ 1099511627776) : ∀ (d n : Nat) (p : Int), n + d = l.length → (n = 0 → p = 0) → (∀ h : 0 < n ∧ n ≤ l.length, p = (l[n - 1]'(by omega)).f0) → Ev (fun k => spec_AreRooms.l0 k l (n : Int)) (roomsF p (l.drop n) && decide ((l.length : Int) ≤ 20)) := by
  intro d
  induction d with
  | zero =>
    intro n p hd hp0 hp
    refine Ev.step (fun k => spec_AreRooms.l0.eq_2 ..) ?_
    refine Ev.neg (by omega) (Ev.some_ ?_)
    rw [List.drop_eq_nil_of_le (by omega)]
    simp [roomsF]
  | succ d ih =>
    intro n p hd hp0 hp
    refine Ev.step (fun k => spec_AreRooms.l0.eq_2 ..) ?_
    refine Ev.pos (by omega) (Ev.pos (by omega) ?_)
    simp only [w64s (show n < 4611686018427387904 by omega), rdRoom (show n < l.length by omega), l1In_eq, Option.bind_some]
    have h1 := ih (n + 1) (l[n]).f0 (by omega) (by omega) (fun h => by simp)
    rw [List.drop_eq_getElem_cons (show n < l.length by omega)]
    generalize l.drop (n + 1) = u at h1 ⊢
    refine Ev.ite (fun h => Ev.ite (fun h' => Ev.ite (fun h2 => ?_) (fun h2 => Ev.cast h1 ?_)) (fun h' => Ev.some_ ?_)) (fun h => Ev.some_ ?_)
    · obtain ⟨m, rfl⟩ : ∃ m, n = m + 1 := ⟨n - 1, by omega⟩
      simp only [w64p (show m < 4611686018427387904 by omega), rdRoom (show m < l.length by omega)]
      have hp' : p = l[m].f0 := hp ⟨by omega, by omega⟩
      refine Ev.pos (by omega) (Ev.pos (by omega) (Ev.ite (fun h3 => Ev.some_ ?_) (fun h3 => Ev.cast h1 ?_)))
      · have : ¬ p < l[m + 1].f0 := by omega
        simp [roomsF, this]
      · have : p < l[m + 1].f0 := by omega
        simp [roomsF, this, h, h']
    · have h0 : n = 0 := by omega
      have := inR_iff.1 h
      have : p < l[n].f0 := by rw [hp0 h0]; omega
      simp [roomsF, h, h', this]
    · simp [roomsF, h']
    · simp [roomsF, h]
theorem sAreRooms_ev (l : List S73) (hl : l.length ≤ 1099511627776) : Ev (fun k => spec_AreRooms.f k l) (okRooms l) := by
  unfold spec_AreRooms.f
  exact Ev.cast (sAreRooms_l0 l hl l.length 0 0 (by omega) (fun _ => rfl) (fun h => by omega)) (by simp [okRooms])
theorem iAreRooms_l0 (l : List S73) (hl : l.length ≤ 1099511627776) : ∀ (d n : Nat) (p : Int), n + d = l.length → (n = 0 → p = 0) → (∀ h : 0 < n ∧ n ≤ l.length, p = (l[n - 1]'(by omega)).f0) → Ev (fun k => impl_AreRooms.l0 k l l (l.length : Int) (n : Int)) (roomsF p (l.drop n)) := by
  intro d
  induction d with
  | zero =>
    intro n p hd hp0 hp
    refine Ev.step (fun k => impl_AreRooms.l0.eq_2 ..) ?_
    refine Ev.neg (by omega) (Ev.some_ ?_)
    rw [List.drop_eq_nil_of_le (by omega)]
    simp [roomsF]
  | succ d ih =>
    intro n p hd hp0 hp
    refine Ev.step (fun k => impl_AreRooms.l0.eq_2 ..) ?_
    refine Ev.pos (by omega) (Ev.pos (by omega) (Ev.pos (by omega) ?_))
    simp only [w64s (show n < 4611686018427387904 by omega), rdRoom (show n < l.length by omega), InRange_eq, Option.bind_some]
    have h1 := ih (n + 1) (l[n]).f0 (by omega) (by omega) (fun h => by simp)
    rw [List.drop_eq_getElem_cons (show n < l.length by omega)]
    generalize l.drop (n + 1) = u at h1 ⊢
    refine Ev.ite (fun h => Ev.ite (fun h2 => ?_) (fun h2 => Ev.ite (fun h' => Ev.cast h1 ?_) (fun h' => Ev.some_ ?_))) (fun h => Ev.some_ ?_)
    · obtain ⟨m, rfl⟩ : ∃ m, n = m + 1 := ⟨n - 1, by omega⟩
      simp only [w64p (show m < 4611686018427387904 by omega), rdRoom (show m < l.length by omega)]
      have hp' : p = l[m].f0 := hp ⟨by omega, by omega⟩
      refine Ev.pos (by omega) (Ev.pos (by omega) (Ev.ite (fun h3 => Ev.some_ ?_) (fun h3 => Ev.ite (fun h' => Ev.cast h1 ?_) (fun h' => Ev.some_ ?_))))
      · have : ¬ p < l[m + 1].f0 := by omega
        simp [roomsF, this]
      · have : p < l[m + 1].f0 := by omega
        simp [roomsF, this, h, h']
      · simp [roomsF, h']
    · have h0 : n = 0 := by omega
      have := inR_iff.1 h
      have : p < l[n].f0 := by rw [hp0 h0]; omega
      simp [roomsF, h, h', this]
    · simp [roomsF, h']
    · simp [roomsF, h]
theorem iAreRooms_ev (l : List S73) (hl : l.length ≤ 1099511627776) : Ev (fun k => impl_AreRooms.f k l) (okRooms l) := by
  unfold impl_AreRooms.f
  refine Ev.ite (fun h => Ev.some_ ?_) (fun h => Ev.cast (iAreRooms_l0 l hl l.length 0 0 (by omega) (fun _ => rfl) (fun h => by omega)) ?_)
  · have : ¬ (l.length : Int) ≤ 20 := by omega
    simp [okRooms, this]
  · have : (l.length : Int) ≤ 20 := by omega
    simp [okRooms, this]
end Go.Proofs.Ytadcndmhdbhfkaa.L
end

section
set_option linter.unusedVariables false
set_option linter.unusedSimpArgs false
namespace Go.Proofs.Ytadcndmhdbhfkaa.L
open Go Go.RowKit Go.Proofs.Ytadcndmhdbhfkaa.A Go.Proofs.YtadcndmhdbhfkaaW.PrintWords
theorem l4Has_l0 (l : List Int) (x : Int) (hl : l.length ≤ 1099511627776) : ∀ (d n : Nat), n + d = l.length → Ev (fun k => spec_l4Has.l0 k l x (n : Int)) (decide (x ∈ l.drop n)) := by
  intro d
  induction d with
  | zero =>
    intro n hd
    refine Ev.step (fun k => spec_l4Has.l0.eq_2 ..) ?_
    refine Ev.neg (by omega) (Ev.some_ ?_)
    rw [List.drop_eq_nil_of_le (by omega)]
    simp
  | succ d ih =>
    intro n hd
    refine Ev.step (fun k => spec_l4Has.l0.eq_2 ..) ?_
    refine Ev.pos (by omega) (Ev.pos (by omega) ?_)
    simp only [w64s (show n < 4611686018427387904 by omega), rd_at (show n < l.length by omega)]
    have h1 := ih (n + 1) (by omega)
    rw [List.drop_eq_getElem_cons (show n < l.length by omega)]
    generalize l.drop (n + 1) = u at h1 ⊢
    refine Ev.ite (fun h => Ev.some_ ?_) (fun h => Ev.cast h1 ?_)
    · simp [h]
    · have h' : ¬ x = l[n] := fun e => h e.symm
      simp [h']
theorem l4Has_ev (l : List Int) (x : Int) (hl : l.length ≤ 1099511627776) : Ev (fun k => spec_l4Has.f k l x) (decide (x ∈ l)) := by
  unfold spec_l4Has.f
  exact Ev.cast (l4Has_l0 l x hl l.length 0 (by omega)) (by simp)
end Go.Proofs.Ytadcndmhdbhfkaa.L
end

section
set_option linter.unusedVariables false
set_option linter.unusedSimpArgs false
namespace Go.Proofs.Ytadcndmhdbhfkaa.L
open Go Go.RowKit Go.Proofs.Ytadcndmhdbhfkaa.A Go.Proofs.YtadcndmhdbhfkaaW.PrintWords Go.Sort
abbrev RmL := S73
theorem lt_iff (x y : RmL) : ltOf cfR x y = true ↔ y.f1 < x.f1 := by
  unfold ltOf cfR
  rw [decide_eq_true_eq, cmpC_neg]
theorem lt_neg (x y : RmL) : ltOf cfR x y = false ↔ x.f1 ≤ y.f1 := by
  rw [Bool.eq_false_iff, Ne, lt_iff]
  omega
theorem swoR : SWO (ltOf cfR) where
  irrefl x := by rw [lt_neg]; omega
  trans x y z h1 h2 := by rw [lt_iff] at *; omega
  ntrans x y z h1 h2 := by rw [lt_neg] at *; omega
theorem swp_at (d : Array RmL) (j p : Nat) (h : j + 1 < d.size) (hp : p < j) : (swp d (j + 1) j)[p]! = d[p]! := by
  rw [swp_get d h (by omega) p]
  rw [if_neg (by omega), if_neg (by omega)]
theorem inner_size (lt : RmL → RmL → Bool) (a : Nat) : ∀ (j : Nat) (d : Array RmL), (insInner lt a j d).size = d.size
  | 0, d => rfl
  | j + 1, d => by
    rw [insInner]
    split
    · rw [inner_size lt a j]; simp [swp]
    · rfl
theorem inner_beyond (lt : RmL → RmL → Bool) : ∀ (j : Nat) (d : Array RmL) (p : Nat), j < d.size → j < p → p < d.size → (insInner lt 0 j d)[p]! = d[p]!
  | 0, d, p, _, _, _ => rfl
  | j + 1, d, p, hj, hp, hs => by
    rw [insInner]
    split
    · rw [inner_beyond lt j _ p (by simp [swp]; omega) (by omega) (by simp [swp]; omega)]
      rw [swp_get d hj (by omega) p, if_neg (by omega), if_neg (by omega)]
    · rfl
theorem inner_head : ∀ (j : Nat) (d : Array RmL), j < d.size → (∀ p, p < j → d[p]!.f1 ≤ d[0]!.f1) → (∀ p, p + 1 < j → d[p + 1]!.f1 ≤ d[p]!.f1) → (insInner (ltOf cfR) 0 j d)[0]! = if j = 0 then d[0]! else if d[0]!.f1 < d[j]!.f1 then d[j]! else d[0]!
  | 0, d, _, _, _ => rfl
  | j + 1, d, hj, h1, h2 => by
    rw [insInner, if_neg (by omega : ¬ (j + 1 = 0))]
    by_cases hc : ltOf cfR d[j + 1]! d[j]! = true
    · rw [if_pos (by simp [hc])]
      have hjj : j < d.size := by omega
      have e0 : ∀ p, p < j → (swp d (j + 1) j)[p]! = d[p]! := fun p hp => swp_at d j p hj hp
      have ej : (swp d (j + 1) j)[j]! = d[j + 1]! := by
        rw [swp_get d hj hjj j]
        simp
      rw [inner_head j _ (by simp [swp]; omega) (fun p hp => by rw [e0 p hp, e0 0 (by omega)]; exact h1 p (by omega)) (fun p hp => by rw [e0 p (by omega), e0 (p + 1) hp]; exact h2 p (by omega))]
      rw [lt_iff] at hc
      by_cases hz : j = 0
      · subst hz
        rw [if_pos rfl, ej, if_pos (by simpa using hc)]
      · rw [if_neg hz, ej, e0 0 (by omega)]
    · rw [if_neg (by simp [hc])]
      rw [Bool.not_eq_true, lt_neg] at hc
      have := h1 j (by omega)
      rw [if_neg (by omega)]
def best (l : List RmL) : Nat → Nat
  | 0 => 0
  | i + 1 => if i = 0 then 0 else if (l.getD (best l i) default).f1 < (l.getD i default).f1 then i else best l i
theorem best_lt (l : List RmL) : ∀ i, 0 < i → best l i < i
  | 0, h => by omega
  | i + 1, _ => by
    rw [best]
    split
    · omega
    · split
      · omega
      · have := best_lt l i (by omega)
        omega
theorem outer_head (l : List RmL) : ∀ (m i : Nat) (d : Array RmL), l.length - i = m → 0 < i → i ≤ l.length → d.size = l.length → SortedIn (ltOf cfR) 0 i d → (∀ p, i ≤ p → p < l.length → d[p]! = l.getD p default) → d[0]! = l.getD (best l i) default → (insOuter (ltOf cfR) 0 l.length i d)[0]! = l.getD (best l l.length) default
  | 0, i, d, hm, h0, hi, hd, hs, hp, hh => by
    rw [insOuter, if_neg (by omega), hh, show i = l.length by omega]
  | m + 1, i, d, hm, h0, hi, hd, hs, hp, hh => by
    have hlt : i < l.length := by omega
    rw [insOuter, if_pos hlt]
    have hsp := insInner_spec (lt := ltOf cfR) swoR swp_permIn permIn_refl permIn_trans 0 l.length i hlt i d (Nat.zero_le _) (Nat.le_refl _) (by omega) ⟨fun p q hap hpq hqi _ hq => hs p q hap hpq (by omega), fun q h1 h2 => by omega⟩
    have hno : ∀ p q, p < q → q < i → d[q]!.f1 ≤ d[p]!.f1 := fun p q h1 h2 => (lt_neg _ _).1 (hs p q (Nat.zero_le _) h1 h2)
    refine outer_head l m (i + 1) _ (by omega) (by omega) (by omega) (by rw [inner_size]; exact hd) hsp.2 (fun p h1 h2 => ?_) ?_
    · rw [inner_beyond _ i d p (by omega) (by omega) (by omega)]
      exact hp p (by omega) h2
    · rw [inner_head i d (by omega) (fun p h1 => by
        rcases Nat.eq_zero_or_pos p with e | e
        · rw [e]; exact Int.le_refl _
        · exact hno 0 p e h1) (fun p h1 => hno p (p + 1) (by omega) h1), if_neg (by omega), hh, hp i (Nat.le_refl _) hlt]
      have eb : best l (i + 1) = if (l.getD (best l i) default).f1 < (l.getD i default).f1 then i else best l i := by rw [best, if_neg (by omega)]
      rw [eb]
      split <;> rfl
theorem srt_head (l : List RmL) (h : 0 < l.length) : (srtR l.toArray)[0]! = l.getD (best l l.length) default := by
  unfold srtR Sort.insertionSort
  have := outer_head l _ 1 l.toArray rfl (by omega) (by omega) (by simp) (fun i j h1 h2 h3 => by omega) (fun p h1 h2 => by simp [h2]) (by simp [best, h])
  simpa using this
theorem rdRm_getD {l : List RmL} {n : Nat} (h : n < l.length) : l.getD n default = rd_T73 l (n : Int) := by simp [rd_T73, h]
theorem sBest_l0 (l : List RmL) (hl : l.length ≤ 1099511627776) : ∀ (d i : Nat), i + d = l.length → 0 < i → Ev (fun k => spec_l22Best.l0 k l ([] : List Int) (best l i : Int) (i : Int)) ((best l l.length : Nat) : Int) := by
  intro d
  induction d with
  | zero =>
    intro i hd h0
    refine Ev.step (fun k => spec_l22Best.l0.eq_2 ..) (Ev.neg (by omega) (Ev.some_ ?_))
    rw [show i = l.length by omega]
  | succ d ih =>
    intro i hd h0
    have hi : i < l.length := by omega
    have hb := best_lt l i h0
    have hnext := ih (i + 1) (by omega) (by omega)
    refine Ev.step (fun k => spec_l22Best.l0.eq_2 ..) (Ev.pos (by omega) (Ev.pos (by omega) ?_))
    refine Ev.bind (l4Has_ev _ _ (by simp)) (Ev.neg (by simp) (Ev.neg (by omega) (Ev.pos (by omega) (Ev.pos (by omega) ?_))))
    rw [w64s (show i < 4611686018427387904 by omega)]
    rw [best, if_neg (by omega), rdRm_getD hi, rdRm_getD (show best l i < l.length by omega)] at hnext
    refine Ev.ite (fun h => ?_) (fun h => ?_)
    · rw [if_pos h] at hnext
      exact hnext
    · rw [if_neg h] at hnext
      exact hnext
theorem sBest_ev (l : List RmL) (hl : l.length ≤ 1099511627776) : Ev (fun k => spec_l22Best.f k l ([] : List Int)) (if l.length = 0 then -1 else ((best l l.length : Nat) : Int)) := by
  unfold spec_l22Best.f
  by_cases h : l.length = 0
  · rw [if_pos h]
    exact Ev.step (fun k => spec_l22Best.l0.eq_2 ..) (Ev.neg (by omega) (Ev.now _))
  · rw [if_neg h]
    refine Ev.step (fun k => spec_l22Best.l0.eq_2 ..) (Ev.pos (by omega) (Ev.pos (by omega) ?_))
    refine Ev.bind (l4Has_ev _ _ (by simp)) (Ev.neg (by simp) (Ev.pos (by omega) ?_))
    have := sBest_l0 l hl (l.length - 1) 1 (by omega) (by omega)
    have e : best l 1 = 0 := by simp [best]
    rw [e] at this
    have w1 : wrap64 (0 + 1) = 1 := by unfold wrap64; omega
    rw [w1]
    exact this
def largeT (l : List RmL) : Int := if l.length = 0 then 0 else if okRooms l = true then (rd_T73 l (best l l.length : Int)).f0 else 0
theorem sLarge_ev (l : List RmL) (hl : l.length ≤ 1099511627776) : Ev (fun k => spec_LargestRoom.f k l) (largeT l) := by
  unfold spec_LargestRoom.f largeT
  refine Ev.bind (sBest_ev l hl) ?_
  by_cases h : l.length = 0
  · rw [if_pos h, if_pos h]
    exact Ev.pos (by omega) (Ev.now _)
  · have hb := best_lt l l.length (by omega)
    rw [if_neg h, if_neg h]
    refine Ev.neg (by omega) (Ev.bind (sAreRooms_ev l hl) ?_)
    refine Ev.ite (fun h2 => ?_) (fun h2 => Ev.some_ (if_neg h2).symm)
    exact Ev.pos (by omega) (Ev.pos (by omega) (Ev.some_ (if_pos h2).symm))
theorem iLarge_ev (l : List RmL) (hl : l.length ≤ 1099511627776) : Ev (fun k => impl_LargestRoom.f k l) (largeT l) := by
  unfold impl_LargestRoom.f largeT
  refine Ev.ite (fun h => Ev.some_ (if_pos (by omega)).symm) (fun h => ?_)
  have h0 : ¬ l.length = 0 := by omega
  rw [if_neg h0]
  refine Ev.bind (iAreRooms_ev l hl) ?_
  refine Ev.ite (fun h2 => ?_) (fun h2 => Ev.some_ (if_neg h2).symm)
  have h20 : l.length ≤ 20 := by
    have h3 := h2
    unfold okRooms at h3
    simp only [Bool.and_eq_true, decide_eq_true_eq] at h3
    omega
  have hsz : (srtR l.toArray).size = l.length := by unfold srtR; rw [ins_size]; simp
  refine Ev.bnd (a := (srtR l.toArray).toList) (by unfold impl_fromLargest.f; exact if_pos ⟨by omega, h20⟩) ?_
  refine Ev.pos (by simp [hsz]; omega) (Ev.some_ ?_)
  rw [if_pos h2]
  have hb := best_lt l l.length (by omega)
  have e1 : rd_T73 (srtR l.toArray).toList 0 = (srtR l.toArray)[0]! := by
    have hz : 0 < (srtR l.toArray).size := by omega
    rw [getElem!_pos _ 0 hz]
    simp [rd_T73, hz]
  rw [e1, srt_head l (by omega), rdRm_getD hb]
end Go.Proofs.Ytadcndmhdbhfkaa.L
end

section
set_option linter.unusedVariables false
set_option linter.unusedSimpArgs false
namespace Go.Proofs.Ytadcndmhdbhfkaa.L
open Go Go.RowKit Go.Proofs.Ytadcndmhdbhfkaa.A Go.Proofs.YtadcndmhdbhfkaaW.PrintWords
theorem FnExactLargestRoom_pure (l0 : List S77) (b0 : l0.length ≤ 9223372036854775807) : ∃ k, laws_FnExactLargestRoom.f k l0 = some true := by
  refine Ev.rounds (g := fun k => laws_FnExactLargestRoom.f k l0) ?_
  unfold laws_FnExactLargestRoom.f
  simp only [szRoomS_eq l0 1048576 (by omega) (by omega) b0, Option.bind_some]
  refine Ev.ite (fun _ => Ev.now _) (fun hs => ?_)
  have hl : l0.length ≤ 1048576 := by split at hs <;> omega
  refine Ev.bind (toRoomS_ev l0 (by omega)) ?_
  refine Ev.bind (sLarge_ev _ (by simp; omega)) ?_
  refine Ev.bind (toRoomS_ev l0 (by omega)) ?_
  refine Ev.bind (iLarge_ev _ (by simp; omega)) ?_
  refine Ev.pos rfl ?_
  refine Ev.bind (toRoomS_ev l0 (by omega)) ?_
  refine Ev.bind (eqRoomS_ev _ (by simp; omega)) ?_
  exact Ev.pos rfl (Ev.now _)
end Go.Proofs.Ytadcndmhdbhfkaa.L
end
