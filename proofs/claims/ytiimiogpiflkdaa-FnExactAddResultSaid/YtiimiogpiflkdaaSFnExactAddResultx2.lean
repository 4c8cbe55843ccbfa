/- What the row FnExactAddResult rests on, put together: A17, LWMark, LHTwo, A23, A24. No condition. -/
import Derived.Test.YtiimiogpiflkdaaSFnExactAddResultx1
import Derived.Test.YtiimiogpiflkdaaSFnExactAddResultx0
section
namespace Go.Proofs.Ytiimiogpiflkdaa.A
open Go.RowKit Go.Proofs.YtiimiogpiflkdaaW.PrintWords Go.Proofs.YtiimiogpiflkdaaW.PrintLast Go.Proofs.YtiimiogpiflkdaaW.PrintMore
attribute [local go_sem] max2_int min2_int max_two min_two max_three min_three max_four min_four   -- for this text's walks alone
set_option linter.unusedVariables false
set_option linter.unusedSimpArgs false
mutual
def spec_AddResult.j0 : Nat → List (S61) → Int → Int → Int → Int → Int → List (S61) → Int → Int → Bool → Option ((List (S61)) × Bool)
  | 0, _, _, _, _, _, _, _, _, _, _ => none
  | k + 1, x0, x1, x2, x3, x4, x5, x14, x15, x16, x55 => if x55 = true then (some (x14, false)) else (if 0 ≤ x15 then (if x15 < (x14.length : Int) then (if ((rd_T61 x14 x15).f5).length < 17592186044416 then ((some (x14.set (x15 : Int).toNat (⟨(rd_T61 x14 x15).f0, (rd_T61 x14 x15).f1, (rd_T61 x14 x15).f2, (rd_T61 x14 x15).f3, (rd_T61 x14 x15).f4, (((rd_T61 x14 x15).f5) ++ [x2])⟩ : S61) : List (S61))).bind fun y167 => (if 0 ≤ x16 then (if x16 < (x14.length : Int) then (if ((rd_T61 y167 x16).f5).length < 17592186044416 then ((some (y167.set (x16 : Int).toNat (⟨(rd_T61 y167 x16).f0, (rd_T61 y167 x16).f1, (rd_T61 y167 x16).f2, (rd_T61 y167 x16).f3, (rd_T61 y167 x16).f4, (((rd_T61 y167 x16).f5) ++ [x1])⟩ : S61) : List (S61))).bind fun y172 => ((some (y172.set (x15 : Int).toNat (⟨(rd_T61 y172 x15).f0, (rd_T61 y172 x15).f1, (rd_T61 y172 x15).f2, (rd_T61 y172 x15).f3, wrap64 (((rd_T61 y172 x15).f4) + 1), (rd_T61 y172 x15).f5⟩ : S61) : List (S61))).bind fun y174 => ((some (y174.set (x15 : Int).toNat (⟨(rd_T61 y174 x15).f0, (rd_T61 y174 x15).f1, (rd_T61 y174 x15).f2, wrap64 (((rd_T61 y174 x15).f3) + x4), (rd_T61 y174 x15).f4, (rd_T61 y174 x15).f5⟩ : S61) : List (S61))).bind fun y176 => ((some (y176.set (x16 : Int).toNat (⟨(rd_T61 y176 x16).f0, (rd_T61 y176 x16).f1, (rd_T61 y176 x16).f2, wrap64 (((rd_T61 y176 x16).f3) + x5), (rd_T61 y176 x16).f4, (rd_T61 y176 x16).f5⟩ : S61) : List (S61))).bind fun y178 => (if x3 = 1 then (spec_AddResult.j1 k x0 (y178.set (x15 : Int).toNat (⟨(rd_T61 y178 x15).f0, (rd_T61 y178 x15).f1, wrap64 (((rd_T61 y178 x15).f2) + 1), (rd_T61 y178 x15).f3, (rd_T61 y178 x15).f4, (rd_T61 y178 x15).f5⟩ : S61))) else (spec_AddResult.j1 k x0 (y178.set (x16 : Int).toNat (⟨(rd_T61 y178 x16).f0, (rd_T61 y178 x16).f1, wrap64 (((rd_T61 y178 x16).f2) + 1), (rd_T61 y178 x16).f3, (rd_T61 y178 x16).f4, (rd_T61 y178 x16).f5⟩ : S61)))))))) else (none)) else (none)) else (none))) else (none)) else (none)) else (none))
def spec_AddResult.j1 : Nat → List (S61) → List (S61) → Option ((List (S61)) × Bool)
  | 0, _, _ => none
  | k + 1, x0, x14 => (spec_AreTeams.f k x14).bind fun t183 => (if t183 = true then (some (x14, true)) else ((spec_l19Copy.f k x0).bind fun t184 => (some (t184, false))))
end
def spec_AddResult.f (k : Nat) (l0 : List (S61)) (a1 : Int) (a2 : Int) (a3 : Int) (a4 : Int) (a5 : Int) : Option ((List (S61)) × Bool) := (spec_l19Copy.f k l0).bind fun t154 => ((spec_FindTeam.f k l0 a1).bind fun t157 => ((spec_FindTeam.f k l0 a2).bind fun t158 => ((spec_AreTeams.f k l0).bind fun t159 => (if t159 = true then (if t157 < 0 then (spec_AddResult.j0 k l0 a1 a2 a3 a4 a5 t154 t157 t158 true) else (if t158 < 0 then (spec_AddResult.j0 k l0 a1 a2 a3 a4 a5 t154 t157 t158 true) else (if t157 = t158 then (spec_AddResult.j0 k l0 a1 a2 a3 a4 a5 t154 t157 t158 true) else ((spec_l1In.f a3 1 2).bind fun t160 => (if t160 = true then ((spec_l1In.f a4 0 1000).bind fun t161 => (if t161 = true then ((spec_l1In.f a5 0 1000).bind fun t162 => (spec_AddResult.j0 k l0 a1 a2 a3 a4 a5 t154 t157 t158 (!t162))) else (spec_AddResult.j0 k l0 a1 a2 a3 a4 a5 t154 t157 t158 true))) else (spec_AddResult.j0 k l0 a1 a2 a3 a4 a5 t154 t157 t158 true)))))) else (spec_AddResult.j0 k l0 a1 a2 a3 a4 a5 t154 t157 t158 true)))))
set_option maxHeartbeats 8000000 in
set_option maxRecDepth 100000 in
theorem spec_AddResult.calls (k : Nat) (A0 : Option Addr) (c0 : Nat) (l0 : List (S61)) (a1 : Int) (a2 : Int) (a3 : Int) (a4 : Int) (a5 : Int) (r1 : List (S61)) (r2 : Bool) (w : World) (hr0 : Kd.C k61 w A0 l0.length l0) (hc0 : l0.length ≤ c0) (h : spec_AddResult.f k l0 a1 a2 a3 a4 a5 = some (r1, r2)) :
  Calls Try.prog 42 #[.slice A0 l0.length c0, .int .i64 a1, .int .i64 a2, .int .i64 a3, .int .i64 a4, .int .i64 a5] w fun e w' => ∃ v0_ : Value, e = .returned (.tuple #[v0_, .bool r2]) ∧ Kd.S k61 61 w' w.heap.size (fun _ => True) v0_ r1 ∧ Below w.heap.size w w' := by
 have HR0 := Aside0.mk hr0
 have HC0 := Aside0.mk hc0
 clear hr0 hc0
 have HB := Aside0.mk (Below.refl w.heap.size w)
 have H : ((spec_l19Copy.f k l0).bind fun t154 => ((spec_FindTeam.f k l0 a1).bind fun t157 => ((spec_FindTeam.f k l0 a2).bind fun t158 => ((spec_AreTeams.f k l0).bind fun t159 => (if t159 = true then (if t157 < 0 then (spec_AddResult.j0 k l0 a1 a2 a3 a4 a5 t154 t157 t158 true) else (if t158 < 0 then (spec_AddResult.j0 k l0 a1 a2 a3 a4 a5 t154 t157 t158 true) else (if t157 = t158 then (spec_AddResult.j0 k l0 a1 a2 a3 a4 a5 t154 t157 t158 true) else ((spec_l1In.f a3 1 2).bind fun t160 => (if t160 = true then ((spec_l1In.f a4 0 1000).bind fun t161 => (if t161 = true then ((spec_l1In.f a5 0 1000).bind fun t162 => (spec_AddResult.j0 k l0 a1 a2 a3 a4 a5 t154 t157 t158 (!t162))) else (spec_AddResult.j0 k l0 a1 a2 a3 a4 a5 t154 t157 t158 true))) else (spec_AddResult.j0 k l0 a1 a2 a3 a4 a5 t154 t157 t158 true)))))) else (spec_AddResult.j0 k l0 a1 a2 a3 a4 a5 t154 t157 t158 true)))))) = some (r1, r2) := h
 clear h
 replace H := Option.bind_eq_some_iff.mp H
 obtain ⟨t154, A70, H⟩ := H
 replace H : ((spec_FindTeam.f k l0 a1).bind fun t157 => ((spec_FindTeam.f k l0 a2).bind fun t158 => ((spec_AreTeams.f k l0).bind fun t159 => (if t159 = true then (if t157 < 0 then (spec_AddResult.j0 k l0 a1 a2 a3 a4 a5 t154 t157 t158 true) else (if t158 < 0 then (spec_AddResult.j0 k l0 a1 a2 a3 a4 a5 t154 t157 t158 true) else (if t157 = t158 then (spec_AddResult.j0 k l0 a1 a2 a3 a4 a5 t154 t157 t158 true) else ((spec_l1In.f a3 1 2).bind fun t160 => (if t160 = true then ((spec_l1In.f a4 0 1000).bind fun t161 => (if t161 = true then ((spec_l1In.f a5 0 1000).bind fun t162 => (spec_AddResult.j0 k l0 a1 a2 a3 a4 a5 t154 t157 t158 (!t162))) else (spec_AddResult.j0 k l0 a1 a2 a3 a4 a5 t154 t157 t158 true))) else (spec_AddResult.j0 k l0 a1 a2 a3 a4 a5 t154 t157 t158 true)))))) else (spec_AddResult.j0 k l0 a1 a2 a3 a4 a5 t154 t157 t158 true))))) = some (r1, r2) := H
 have A7 := Aside0.mk A70
 clear A70
 replace H := Option.bind_eq_some_iff.mp H
 obtain ⟨t157, A80, H⟩ := H
 replace H : ((spec_FindTeam.f k l0 a2).bind fun t158 => ((spec_AreTeams.f k l0).bind fun t159 => (if t159 = true then (if t157 < 0 then (spec_AddResult.j0 k l0 a1 a2 a3 a4 a5 t154 t157 t158 true) else (if t158 < 0 then (spec_AddResult.j0 k l0 a1 a2 a3 a4 a5 t154 t157 t158 true) else (if t157 = t158 then (spec_AddResult.j0 k l0 a1 a2 a3 a4 a5 t154 t157 t158 true) else ((spec_l1In.f a3 1 2).bind fun t160 => (if t160 = true then ((spec_l1In.f a4 0 1000).bind fun t161 => (if t161 = true then ((spec_l1In.f a5 0 1000).bind fun t162 => (spec_AddResult.j0 k l0 a1 a2 a3 a4 a5 t154 t157 t158 (!t162))) else (spec_AddResult.j0 k l0 a1 a2 a3 a4 a5 t154 t157 t158 true))) else (spec_AddResult.j0 k l0 a1 a2 a3 a4 a5 t154 t157 t158 true)))))) else (spec_AddResult.j0 k l0 a1 a2 a3 a4 a5 t154 t157 t158 true)))) = some (r1, r2) := H
 have A8 := Aside0.mk A80
 clear A80
 replace H := Option.bind_eq_some_iff.mp H
 obtain ⟨t158, A90, H⟩ := H
 replace H : ((spec_AreTeams.f k l0).bind fun t159 => (if t159 = true then (if t157 < 0 then (spec_AddResult.j0 k l0 a1 a2 a3 a4 a5 t154 t157 t158 true) else (if t158 < 0 then (spec_AddResult.j0 k l0 a1 a2 a3 a4 a5 t154 t157 t158 true) else (if t157 = t158 then (spec_AddResult.j0 k l0 a1 a2 a3 a4 a5 t154 t157 t158 true) else ((spec_l1In.f a3 1 2).bind fun t160 => (if t160 = true then ((spec_l1In.f a4 0 1000).bind fun t161 => (if t161 = true then ((spec_l1In.f a5 0 1000).bind fun t162 => (spec_AddResult.j0 k l0 a1 a2 a3 a4 a5 t154 t157 t158 (!t162))) else (spec_AddResult.j0 k l0 a1 a2 a3 a4 a5 t154 t157 t158 true))) else (spec_AddResult.j0 k l0 a1 a2 a3 a4 a5 t154 t157 t158 true)))))) else (spec_AddResult.j0 k l0 a1 a2 a3 a4 a5 t154 t157 t158 true))) = some (r1, r2) := H
 have A9 := Aside0.mk A90
 clear A90
 have HC10 := Aside0.mk H
 clear H
 go_enter Try.func42, Try.ntmps42
 go_upto_region 4 with (first | ((with_reducible refine gate_callee (f := 74) rfl ?_); refine goesL_ (some 18) rfl rfl Try.func74 (by kernel_rfl) rfl #[.slice A0 l0.length c0] rfl (by (try simp only [List.map_toArray, List.map_cons, List.map_nil]); first | done | rfl | (simp only [List.length_drop, List.length_take]; rfl)) ?_; (with_reducible refine (spec_l19Copy.calls k _ _ l0 t154 _ ?side1 ?side2 A7.out).mono ?_); (case side1 => repeat (first | exact HR0.out | (with_reducible refine Kd.C_alloc ?_ _) | (with_reducible refine Kd.C_drewN ?_ _) | (with_reducible refine Kd.C_drew ?_))); (case side2 => exact HC0.out); rintro e w11 ⟨v155, rfl, ho0, hb⟩; refine ⟨_, rfl, ?_⟩; have n0_ := Aside0.mk (Kd.S_lower ho0 (below_size (by repeat (first | (with_reducible first | exact HB.out | apply below_alloc | apply pw_below_drewN | apply below_drew1) | exact HB.out)))); have n1_ := Aside0.mk (below_step (by repeat (first | (with_reducible first | exact HB.out | apply below_alloc | apply pw_below_drewN | apply below_drew1) | exact HB.out)) hb); clear HB; have HO156 := n0_; have HB := n1_; clear n0_ n1_; (try clear hb); (try clear hb2); (try clear hk); (try clear hi); (try clear ho0)) | ((with_reducible refine gate_callee (f := 16) rfl ?_); refine goesL_ (some 21) rfl rfl Try.func16 (by kernel_rfl) rfl #[.slice A0 l0.length c0, .int .i64 a1] rfl (by (try simp only [List.map_toArray, List.map_cons, List.map_nil]); first | done | rfl | (simp only [List.length_drop, List.length_take]; rfl)) ?_; (with_reducible refine (spec_FindTeam.calls k _ _ l0 a1 t157 _ ?side1 ?side2 A8.out).mono ?_); (case side1 => repeat (first | exact (Kd.C_below HR0.out HB.out) | (with_reducible refine Kd.C_alloc ?_ _) | (with_reducible refine Kd.C_drewN ?_ _) | (with_reducible refine Kd.C_drew ?_))); (case side2 => exact HC0.out); rintro e w' ⟨rfl, ⟨nd, rfl⟩⟩; refine ⟨_, rfl, ?_⟩) | ((with_reducible refine gate_callee (f := 16) rfl ?_); refine goesL_ (some 24) rfl rfl Try.func16 (by kernel_rfl) rfl #[.slice A0 l0.length c0, .int .i64 a2] rfl (by (try simp only [List.map_toArray, List.map_cons, List.map_nil]); first | done | rfl | (simp only [List.length_drop, List.length_take]; rfl)) ?_; (with_reducible refine (spec_FindTeam.calls k _ _ l0 a2 t158 _ ?side1 ?side2 A9.out).mono ?_); (case side1 => repeat (first | exact (Kd.C_below HR0.out (by repeat (first | (with_reducible first | exact HB.out | apply below_alloc | apply pw_below_drewN | apply below_drew1) | exact HB.out))) | (with_reducible refine Kd.C_alloc ?_ _) | (with_reducible refine Kd.C_drewN ?_ _) | (with_reducible refine Kd.C_drew ?_))); (case side2 => exact HC0.out); rintro e w' ⟨rfl, ⟨nd, rfl⟩⟩; refine ⟨_, rfl, ?_⟩))
 (try simp only [Act.put, List.setIfInBounds_toArray, List.set_cons_zero, List.set_cons_succ])
 go_cut [55] (fun v55 wc => ∃ (kq : Nat) (x55_9 : Bool), v55 = .bool x55_9 ∧ Aside0 (spec_AddResult.j0 kq l0 a1 a2 a3 a4 a5 t154 t157 t158 x55_9 = some (r1, r2)) ∧ Aside0 (kq ≤ k) ∧ Aside0 (Kd.S k61 61 wc w.heap.size (fun _ => True) v155 t154) ∧ Aside0 (Below w.heap.size w wc))
 case first =>
  have H := HC10.out
  clear HC10
  replace H := Option.bind_eq_some_iff.mp H
  obtain ⟨t159, A120, H⟩ := H
  replace H : (if t159 = true then (if t157 < 0 then (spec_AddResult.j0 k l0 a1 a2 a3 a4 a5 t154 t157 t158 true) else (if t158 < 0 then (spec_AddResult.j0 k l0 a1 a2 a3 a4 a5 t154 t157 t158 true) else (if t157 = t158 then (spec_AddResult.j0 k l0 a1 a2 a3 a4 a5 t154 t157 t158 true) else ((spec_l1In.f a3 1 2).bind fun t160 => (if t160 = true then ((spec_l1In.f a4 0 1000).bind fun t161 => (if t161 = true then ((spec_l1In.f a5 0 1000).bind fun t162 => (spec_AddResult.j0 k l0 a1 a2 a3 a4 a5 t154 t157 t158 (!t162))) else (spec_AddResult.j0 k l0 a1 a2 a3 a4 a5 t154 t157 t158 true))) else (spec_AddResult.j0 k l0 a1 a2 a3 a4 a5 t154 t157 t158 true)))))) else (spec_AddResult.j0 k l0 a1 a2 a3 a4 a5 t154 t157 t158 true)) = some (r1, r2) := H
  have A12 := Aside0.mk A120
  clear A120
  by_cases c13 : t159 = true
  ·
   subst c13
   have H1 : (if t157 < 0 then (spec_AddResult.j0 k l0 a1 a2 a3 a4 a5 t154 t157 t158 true) else (if t158 < 0 then (spec_AddResult.j0 k l0 a1 a2 a3 a4 a5 t154 t157 t158 true) else (if t157 = t158 then (spec_AddResult.j0 k l0 a1 a2 a3 a4 a5 t154 t157 t158 true) else ((spec_l1In.f a3 1 2).bind fun t160 => (if t160 = true then ((spec_l1In.f a4 0 1000).bind fun t161 => (if t161 = true then ((spec_l1In.f a5 0 1000).bind fun t162 => (spec_AddResult.j0 k l0 a1 a2 a3 a4 a5 t154 t157 t158 (!t162))) else (spec_AddResult.j0 k l0 a1 a2 a3 a4 a5 t154 t157 t158 true))) else (spec_AddResult.j0 k l0 a1 a2 a3 a4 a5 t154 t157 t158 true)))))) = some (r1, r2) := by rw [if_pos rfl] at H; exact H
   clear H
   have H := H1
   clear H1
   by_cases c14 : t157 < 0
   ·
    rw [if_pos c14] at H
    have c14b0 : decide (t157 < 0) = true := decide_eq_true c14
    clear c14
    (first | rw [c14b0] | (simp only [i64_w, i32_w]; rw [c14b0]) | skip)
    have H' := Aside0.mk H
    clear H
    go_wp2_with (first | ((with_reducible refine gate_callee (f := 20) rfl ?_); refine goesL_ (some 26) rfl rfl Try.func20 (by kernel_rfl) rfl #[.slice A0 l0.length c0] rfl (by (try simp only [List.map_toArray, List.map_cons, List.map_nil]); first | done | rfl | (simp only [List.length_drop, List.length_take]; rfl)) ?_; (with_reducible refine (spec_AreTeams.calls k _ _ l0 true _ ?side1 ?side2 A12.out).mono ?_); (case side1 => repeat (first | exact (Kd.C_below HR0.out HB.out) | (with_reducible refine Kd.C_alloc ?_ _) | (with_reducible refine Kd.C_drewN ?_ _) | (with_reducible refine Kd.C_drew ?_))); (case side2 => exact HC0.out); rintro e w15 ⟨rfl, hb⟩; refine ⟨_, rfl, ?_⟩; have n0_ := Aside0.mk (Kd.S_below (by (with_reducible repeat (first | apply Kd.S_alloc | apply Kd.S_drewN | apply Kd.S_drew)); exact HO156.out) hb); have n1_ := Aside0.mk (below_step (by repeat (first | (with_reducible first | exact HB.out | apply below_alloc | apply pw_below_drewN | apply below_drew1) | exact HB.out)) hb); clear HO156; clear HB; have HO156 := n0_; have HB := n1_; clear n0_ n1_; (try clear hb); (try clear hb2); (try clear hk); (try clear hi)))
    go_meet
    case rel => exact ⟨_, (true), (by first | rfl | (simp; done) | (simp [*]; done)), H', ⟨by first | omega | exact Nat.le_refl _⟩, ⟨by (with_reducible repeat (first | apply Kd.S_alloc | apply Kd.S_drewN | apply Kd.S_drew)); exact HO156.out⟩, ⟨by repeat (first | (with_reducible first | exact HB.out | apply below_alloc | apply pw_below_drewN | apply below_drew1) | exact HB.out)⟩⟩
   ·
    rw [if_neg c14] at H
    have c14b0 : decide (t157 < 0) = false := decide_eq_false c14
    clear c14
    (first | rw [c14b0] | (simp only [i64_w, i32_w]; rw [c14b0]) | skip)
    by_cases c16 : t158 < 0
    ·
     rw [if_pos c16] at H
     have c16b0 : decide (t158 < 0) = true := decide_eq_true c16
     clear c16
     have H' := Aside0.mk H
     clear H
     go_wp2_with (first | ((with_reducible refine gate_callee (f := 20) rfl ?_); refine goesL_ (some 26) rfl rfl Try.func20 (by kernel_rfl) rfl #[.slice A0 l0.length c0] rfl (by (try simp only [List.map_toArray, List.map_cons, List.map_nil]); first | done | rfl | (simp only [List.length_drop, List.length_take]; rfl)) ?_; (with_reducible refine (spec_AreTeams.calls k _ _ l0 true _ ?side1 ?side2 A12.out).mono ?_); (case side1 => repeat (first | exact (Kd.C_below HR0.out HB.out) | (with_reducible refine Kd.C_alloc ?_ _) | (with_reducible refine Kd.C_drewN ?_ _) | (with_reducible refine Kd.C_drew ?_))); (case side2 => exact HC0.out); rintro e w17 ⟨rfl, hb⟩; refine ⟨_, rfl, ?_⟩; have n0_ := Aside0.mk (Kd.S_below (by (with_reducible repeat (first | apply Kd.S_alloc | apply Kd.S_drewN | apply Kd.S_drew)); exact HO156.out) hb); have n1_ := Aside0.mk (below_step (by repeat (first | (with_reducible first | exact HB.out | apply below_alloc | apply pw_below_drewN | apply below_drew1) | exact HB.out)) hb); clear HO156; clear HB; have HO156 := n0_; have HB := n1_; clear n0_ n1_; (try clear hb); (try clear hb2); (try clear hk); (try clear hi)))
     go_meet
     case rel => exact ⟨_, (true), (by first | rfl | (simp; done) | (simp [*]; done)), H', ⟨by first | omega | exact Nat.le_refl _⟩, ⟨by (with_reducible repeat (first | apply Kd.S_alloc | apply Kd.S_drewN | apply Kd.S_drew)); exact HO156.out⟩, ⟨by repeat (first | (with_reducible first | exact HB.out | apply below_alloc | apply pw_below_drewN | apply below_drew1) | exact HB.out)⟩⟩
    ·
     rw [if_neg c16] at H
     have c16b0 : decide (t158 < 0) = false := decide_eq_false c16
     clear c16
     by_cases c18 : t157 = t158
     ·
      rw [if_pos c18] at H
      have c18b0 : (t157 == t158) = true := beq_iff_eq.mpr c18
      have c18b1 : (t157 != t158) = false := bne_eq_false_iff_eq.mpr c18
      clear c18
      have H' := Aside0.mk H
      clear H
      go_wp2_with (first | ((with_reducible refine gate_callee (f := 20) rfl ?_); refine goesL_ (some 26) rfl rfl Try.func20 (by kernel_rfl) rfl #[.slice A0 l0.length c0] rfl (by (try simp only [List.map_toArray, List.map_cons, List.map_nil]); first | done | rfl | (simp only [List.length_drop, List.length_take]; rfl)) ?_; (with_reducible refine (spec_AreTeams.calls k _ _ l0 true _ ?side1 ?side2 A12.out).mono ?_); (case side1 => repeat (first | exact (Kd.C_below HR0.out HB.out) | (with_reducible refine Kd.C_alloc ?_ _) | (with_reducible refine Kd.C_drewN ?_ _) | (with_reducible refine Kd.C_drew ?_))); (case side2 => exact HC0.out); rintro e w19 ⟨rfl, hb⟩; refine ⟨_, rfl, ?_⟩; have n0_ := Aside0.mk (Kd.S_below (by (with_reducible repeat (first | apply Kd.S_alloc | apply Kd.S_drewN | apply Kd.S_drew)); exact HO156.out) hb); have n1_ := Aside0.mk (below_step (by repeat (first | (with_reducible first | exact HB.out | apply below_alloc | apply pw_below_drewN | apply below_drew1) | exact HB.out)) hb); clear HO156; clear HB; have HO156 := n0_; have HB := n1_; clear n0_ n1_; (try clear hb); (try clear hb2); (try clear hk); (try clear hi)))
      go_meet
      case rel => exact ⟨_, (true), (by first | rfl | (simp; done) | (simp [*]; done)), H', ⟨by first | omega | exact Nat.le_refl _⟩, ⟨by (with_reducible repeat (first | apply Kd.S_alloc | apply Kd.S_drewN | apply Kd.S_drew)); exact HO156.out⟩, ⟨by repeat (first | (with_reducible first | exact HB.out | apply below_alloc | apply pw_below_drewN | apply below_drew1) | exact HB.out)⟩⟩
     ·
      rw [if_neg c18] at H
      have c18b0 : (t157 == t158) = false := beq_eq_false_iff_ne.mpr c18
      have c18b1 : (t157 != t158) = true := bne_iff_ne.mpr c18
      replace H := Option.bind_eq_some_iff.mp H
      obtain ⟨t160, A200, H⟩ := H
      replace H : (if t160 = true then ((spec_l1In.f a4 0 1000).bind fun t161 => (if t161 = true then ((spec_l1In.f a5 0 1000).bind fun t162 => (spec_AddResult.j0 k l0 a1 a2 a3 a4 a5 t154 t157 t158 (!t162))) else (spec_AddResult.j0 k l0 a1 a2 a3 a4 a5 t154 t157 t158 true))) else (spec_AddResult.j0 k l0 a1 a2 a3 a4 a5 t154 t157 t158 true)) = some (r1, r2) := H
      have A20 := Aside0.mk A200
      clear A200
      by_cases c21 : t160 = true
      ·
       subst c21
       have H1 : ((spec_l1In.f a4 0 1000).bind fun t161 => (if t161 = true then ((spec_l1In.f a5 0 1000).bind fun t162 => (spec_AddResult.j0 k l0 a1 a2 a3 a4 a5 t154 t157 t158 (!t162))) else (spec_AddResult.j0 k l0 a1 a2 a3 a4 a5 t154 t157 t158 true))) = some (r1, r2) := by rw [if_pos rfl] at H; exact H
       clear H
       have H := H1
       clear H1
       replace H := Option.bind_eq_some_iff.mp H
       obtain ⟨t161, A220, H⟩ := H
       replace H : (if t161 = true then ((spec_l1In.f a5 0 1000).bind fun t162 => (spec_AddResult.j0 k l0 a1 a2 a3 a4 a5 t154 t157 t158 (!t162))) else (spec_AddResult.j0 k l0 a1 a2 a3 a4 a5 t154 t157 t158 true)) = some (r1, r2) := H
       have A22 := Aside0.mk A220
       clear A220
       by_cases c23 : t161 = true
       ·
        subst c23
        have H1 : ((spec_l1In.f a5 0 1000).bind fun t162 => (spec_AddResult.j0 k l0 a1 a2 a3 a4 a5 t154 t157 t158 (!t162))) = some (r1, r2) := by rw [if_pos rfl] at H; exact H
        clear H
        have H := H1
        clear H1
        replace H := Option.bind_eq_some_iff.mp H
        obtain ⟨t162, A240, H⟩ := H
        replace H : (spec_AddResult.j0 k l0 a1 a2 a3 a4 a5 t154 t157 t158 (!t162)) = some (r1, r2) := H
        have A24 := Aside0.mk A240
        clear A240
        have H' := Aside0.mk H
        clear H
        go_wp2_with (first | ((with_reducible refine gate_callee (f := 20) rfl ?_); refine goesL_ (some 26) rfl rfl Try.func20 (by kernel_rfl) rfl #[.slice A0 l0.length c0] rfl (by (try simp only [List.map_toArray, List.map_cons, List.map_nil]); first | done | rfl | (simp only [List.length_drop, List.length_take]; rfl)) ?_; (with_reducible refine (spec_AreTeams.calls k _ _ l0 true _ ?side1 ?side2 A12.out).mono ?_); (case side1 => repeat (first | exact (Kd.C_below HR0.out HB.out) | (with_reducible refine Kd.C_alloc ?_ _) | (with_reducible refine Kd.C_drewN ?_ _) | (with_reducible refine Kd.C_drew ?_))); (case side2 => exact HC0.out); rintro e w25 ⟨rfl, hb⟩; refine ⟨_, rfl, ?_⟩; have n0_ := Aside0.mk (Kd.S_below (by (with_reducible repeat (first | apply Kd.S_alloc | apply Kd.S_drewN | apply Kd.S_drew)); exact HO156.out) hb); have n1_ := Aside0.mk (below_step (by repeat (first | (with_reducible first | exact HB.out | apply below_alloc | apply pw_below_drewN | apply below_drew1) | exact HB.out)) hb); clear HO156; clear HB; have HO156 := n0_; have HB := n1_; clear n0_ n1_; (try clear hb); (try clear hb2); (try clear hk); (try clear hi)) | (go_at_call 59; (with_reducible refine (spec_l1In.calls a3 1 2 true _ A20.out).mono ?_); rintro e w' ⟨rfl, ⟨nd, rfl⟩⟩) | (go_at_call 59; (with_reducible refine (spec_l1In.calls a4 0 1000 true _ A22.out).mono ?_); rintro e w' ⟨rfl, ⟨nd, rfl⟩⟩) | (go_at_call 59; (with_reducible refine (spec_l1In.calls a5 0 1000 t162 _ A24.out).mono ?_); rintro e w' ⟨rfl, ⟨nd, rfl⟩⟩))
        go_meet
        case rel => exact ⟨_, (!t162), (by first | rfl | (simp; done) | (simp [*]; done)), H', ⟨by first | omega | exact Nat.le_refl _⟩, ⟨by (with_reducible repeat (first | apply Kd.S_alloc | apply Kd.S_drewN | apply Kd.S_drew)); exact HO156.out⟩, ⟨by repeat (first | (with_reducible first | exact HB.out | apply below_alloc | apply pw_below_drewN | apply below_drew1) | exact HB.out)⟩⟩
       ·
        replace c23 := Bool.eq_false_iff.mpr c23
        subst c23
        have H1 : (spec_AddResult.j0 k l0 a1 a2 a3 a4 a5 t154 t157 t158 true) = some (r1, r2) := by rw [if_neg (show ¬ (false = true) by decide)] at H; exact H
        clear H
        have H := H1
        clear H1
        have H' := Aside0.mk H
        clear H
        go_wp2_with (first | ((with_reducible refine gate_callee (f := 20) rfl ?_); refine goesL_ (some 26) rfl rfl Try.func20 (by kernel_rfl) rfl #[.slice A0 l0.length c0] rfl (by (try simp only [List.map_toArray, List.map_cons, List.map_nil]); first | done | rfl | (simp only [List.length_drop, List.length_take]; rfl)) ?_; (with_reducible refine (spec_AreTeams.calls k _ _ l0 true _ ?side1 ?side2 A12.out).mono ?_); (case side1 => repeat (first | exact (Kd.C_below HR0.out HB.out) | (with_reducible refine Kd.C_alloc ?_ _) | (with_reducible refine Kd.C_drewN ?_ _) | (with_reducible refine Kd.C_drew ?_))); (case side2 => exact HC0.out); rintro e w26 ⟨rfl, hb⟩; refine ⟨_, rfl, ?_⟩; have n0_ := Aside0.mk (Kd.S_below (by (with_reducible repeat (first | apply Kd.S_alloc | apply Kd.S_drewN | apply Kd.S_drew)); exact HO156.out) hb); have n1_ := Aside0.mk (below_step (by repeat (first | (with_reducible first | exact HB.out | apply below_alloc | apply pw_below_drewN | apply below_drew1) | exact HB.out)) hb); clear HO156; clear HB; have HO156 := n0_; have HB := n1_; clear n0_ n1_; (try clear hb); (try clear hb2); (try clear hk); (try clear hi)) | (go_at_call 59; (with_reducible refine (spec_l1In.calls a3 1 2 true _ A20.out).mono ?_); rintro e w' ⟨rfl, ⟨nd, rfl⟩⟩) | (go_at_call 59; (with_reducible refine (spec_l1In.calls a4 0 1000 false _ A22.out).mono ?_); rintro e w' ⟨rfl, ⟨nd, rfl⟩⟩))
        go_meet
        case rel => exact ⟨_, (true), (by first | rfl | (simp; done) | (simp [*]; done)), H', ⟨by first | omega | exact Nat.le_refl _⟩, ⟨by (with_reducible repeat (first | apply Kd.S_alloc | apply Kd.S_drewN | apply Kd.S_drew)); exact HO156.out⟩, ⟨by repeat (first | (with_reducible first | exact HB.out | apply below_alloc | apply pw_below_drewN | apply below_drew1) | exact HB.out)⟩⟩
      ·
       replace c21 := Bool.eq_false_iff.mpr c21
       subst c21
       have H1 : (spec_AddResult.j0 k l0 a1 a2 a3 a4 a5 t154 t157 t158 true) = some (r1, r2) := by rw [if_neg (show ¬ (false = true) by decide)] at H; exact H
       clear H
       have H := H1
       clear H1
       have H' := Aside0.mk H
       clear H
       go_wp2_with (first | ((with_reducible refine gate_callee (f := 20) rfl ?_); refine goesL_ (some 26) rfl rfl Try.func20 (by kernel_rfl) rfl #[.slice A0 l0.length c0] rfl (by (try simp only [List.map_toArray, List.map_cons, List.map_nil]); first | done | rfl | (simp only [List.length_drop, List.length_take]; rfl)) ?_; (with_reducible refine (spec_AreTeams.calls k _ _ l0 true _ ?side1 ?side2 A12.out).mono ?_); (case side1 => repeat (first | exact (Kd.C_below HR0.out HB.out) | (with_reducible refine Kd.C_alloc ?_ _) | (with_reducible refine Kd.C_drewN ?_ _) | (with_reducible refine Kd.C_drew ?_))); (case side2 => exact HC0.out); rintro e w27 ⟨rfl, hb⟩; refine ⟨_, rfl, ?_⟩; have n0_ := Aside0.mk (Kd.S_below (by (with_reducible repeat (first | apply Kd.S_alloc | apply Kd.S_drewN | apply Kd.S_drew)); exact HO156.out) hb); have n1_ := Aside0.mk (below_step (by repeat (first | (with_reducible first | exact HB.out | apply below_alloc | apply pw_below_drewN | apply below_drew1) | exact HB.out)) hb); clear HO156; clear HB; have HO156 := n0_; have HB := n1_; clear n0_ n1_; (try clear hb); (try clear hb2); (try clear hk); (try clear hi)) | (go_at_call 59; (with_reducible refine (spec_l1In.calls a3 1 2 false _ A20.out).mono ?_); rintro e w' ⟨rfl, ⟨nd, rfl⟩⟩))
       go_meet
       case rel => exact ⟨_, (true), (by first | rfl | (simp; done) | (simp [*]; done)), H', ⟨by first | omega | exact Nat.le_refl _⟩, ⟨by (with_reducible repeat (first | apply Kd.S_alloc | apply Kd.S_drewN | apply Kd.S_drew)); exact HO156.out⟩, ⟨by repeat (first | (with_reducible first | exact HB.out | apply below_alloc | apply pw_below_drewN | apply below_drew1) | exact HB.out)⟩⟩
  ·
   replace c13 := Bool.eq_false_iff.mpr c13
   subst c13
   have H1 : (spec_AddResult.j0 k l0 a1 a2 a3 a4 a5 t154 t157 t158 true) = some (r1, r2) := by rw [if_neg (show ¬ (false = true) by decide)] at H; exact H
   clear H
   have H := H1
   clear H1
   have H' := Aside0.mk H
   clear H
   go_wp2_with (first | ((with_reducible refine gate_callee (f := 20) rfl ?_); refine goesL_ (some 26) rfl rfl Try.func20 (by kernel_rfl) rfl #[.slice A0 l0.length c0] rfl (by (try simp only [List.map_toArray, List.map_cons, List.map_nil]); first | done | rfl | (simp only [List.length_drop, List.length_take]; rfl)) ?_; (with_reducible refine (spec_AreTeams.calls k _ _ l0 false _ ?side1 ?side2 A12.out).mono ?_); (case side1 => repeat (first | exact (Kd.C_below HR0.out HB.out) | (with_reducible refine Kd.C_alloc ?_ _) | (with_reducible refine Kd.C_drewN ?_ _) | (with_reducible refine Kd.C_drew ?_))); (case side2 => exact HC0.out); rintro e w28 ⟨rfl, hb⟩; refine ⟨_, rfl, ?_⟩; have n0_ := Aside0.mk (Kd.S_below (by (with_reducible repeat (first | apply Kd.S_alloc | apply Kd.S_drewN | apply Kd.S_drew)); exact HO156.out) hb); have n1_ := Aside0.mk (below_step (by repeat (first | (with_reducible first | exact HB.out | apply below_alloc | apply pw_below_drewN | apply below_drew1) | exact HB.out)) hb); clear HO156; clear HB; have HO156 := n0_; have HB := n1_; clear n0_ n1_; (try clear hb); (try clear hb2); (try clear hk); (try clear hi)))
   go_meet
   case rel => exact ⟨_, (true), (by first | rfl | (simp; done) | (simp [*]; done)), H', ⟨by first | omega | exact Nat.le_refl _⟩, ⟨by (with_reducible repeat (first | apply Kd.S_alloc | apply Kd.S_drewN | apply Kd.S_drew)); exact HO156.out⟩, ⟨by repeat (first | (with_reducible first | exact HB.out | apply below_alloc | apply pw_below_drewN | apply below_drew1) | exact HB.out)⟩⟩
 case rest =>
  clear HC10
  try clear c1
  try clear c2
  try clear p2
  try clear c4
  try clear c7
  try clear c13
  try clear c14
  try clear c14b0
  try clear c16
  try clear c16b0
  try clear c18
  try clear c18b0
  try clear c18b1
  try clear c20
  try clear c21
  try clear c23
  obtain ⟨kq, x55_9, rfl, HA, HJ9, HO_14, HB⟩ := hcut
  cases kq with
  | zero => exact absurd HA.out (by simp [spec_AddResult.j0])
  | succ kj9 =>
   have H := HA.out
   clear HA
   simp only [spec_AddResult.j0] at H
   by_cases c29 : x55_9 = true
   ·
    subst c29
    have H1 : (some (t154, false)) = some (r1, r2) := by rw [if_pos rfl] at H; exact H
    clear H
    have H := H1
    clear H1
    simp only [Option.some.injEq, Prod.mk.injEq] at H
    obtain ⟨rfl, rfl⟩ := H
    go_wp2
    go_ret2
    exact ⟨_, by first | rfl | (simp [errW_none, errW_some] <;> rfl) | (simp [*, errW_none, errW_some] <;> rfl), by (with_reducible repeat (first | apply Kd.S_alloc | apply Kd.S_drewN | apply Kd.S_drew)); exact HO_14.out, by repeat (first | (with_reducible first | exact HB.out | apply below_alloc | apply pw_below_drewN | apply below_drew1) | exact HB.out)⟩
   ·
    replace c29 := Bool.eq_false_iff.mpr c29
    subst c29
    have H1 : (if 0 ≤ t157 then (if t157 < (t154.length : Int) then (if ((rd_T61 t154 t157).f5).length < 17592186044416 then ((some (t154.set (t157 : Int).toNat (⟨(rd_T61 t154 t157).f0, (rd_T61 t154 t157).f1, (rd_T61 t154 t157).f2, (rd_T61 t154 t157).f3, (rd_T61 t154 t157).f4, (((rd_T61 t154 t157).f5) ++ [a2])⟩ : S61) : List (S61))).bind fun y167 => (if 0 ≤ t158 then (if t158 < (t154.length : Int) then (if ((rd_T61 y167 t158).f5).length < 17592186044416 then ((some (y167.set (t158 : Int).toNat (⟨(rd_T61 y167 t158).f0, (rd_T61 y167 t158).f1, (rd_T61 y167 t158).f2, (rd_T61 y167 t158).f3, (rd_T61 y167 t158).f4, (((rd_T61 y167 t158).f5) ++ [a1])⟩ : S61) : List (S61))).bind fun y172 => ((some (y172.set (t157 : Int).toNat (⟨(rd_T61 y172 t157).f0, (rd_T61 y172 t157).f1, (rd_T61 y172 t157).f2, (rd_T61 y172 t157).f3, wrap64 (((rd_T61 y172 t157).f4) + 1), (rd_T61 y172 t157).f5⟩ : S61) : List (S61))).bind fun y174 => ((some (y174.set (t157 : Int).toNat (⟨(rd_T61 y174 t157).f0, (rd_T61 y174 t157).f1, (rd_T61 y174 t157).f2, wrap64 (((rd_T61 y174 t157).f3) + a4), (rd_T61 y174 t157).f4, (rd_T61 y174 t157).f5⟩ : S61) : List (S61))).bind fun y176 => ((some (y176.set (t158 : Int).toNat (⟨(rd_T61 y176 t158).f0, (rd_T61 y176 t158).f1, (rd_T61 y176 t158).f2, wrap64 (((rd_T61 y176 t158).f3) + a5), (rd_T61 y176 t158).f4, (rd_T61 y176 t158).f5⟩ : S61) : List (S61))).bind fun y178 => (if a3 = 1 then (spec_AddResult.j1 kj9 l0 (y178.set (t157 : Int).toNat (⟨(rd_T61 y178 t157).f0, (rd_T61 y178 t157).f1, wrap64 (((rd_T61 y178 t157).f2) + 1), (rd_T61 y178 t157).f3, (rd_T61 y178 t157).f4, (rd_T61 y178 t157).f5⟩ : S61))) else (spec_AddResult.j1 kj9 l0 (y178.set (t158 : Int).toNat (⟨(rd_T61 y178 t158).f0, (rd_T61 y178 t158).f1, wrap64 (((rd_T61 y178 t158).f2) + 1), (rd_T61 y178 t158).f3, (rd_T61 y178 t158).f4, (rd_T61 y178 t158).f5⟩ : S61)))))))) else (none)) else (none)) else (none))) else (none)) else (none)) else (none)) = some (r1, r2) := by rw [if_neg (show ¬ (false = true) by decide)] at H; exact H
    clear H
    have H := H1
    clear H1
    by_cases c30 : 0 ≤ t157
    ·
     rw [if_pos c30] at H
     have c30b0 : decide (0 ≤ t157) = true := decide_eq_true c30
     clear c30
     by_cases c31 : t157 < (t154.length : Int)
     ·
      rw [if_pos c31] at H
      have c31b0 : decide (t157 < (t154.length : Int)) = true := decide_eq_true c31
      clear c31
      by_cases c32 : ((rd_T61 t154 t157).f5).length < 17592186044416
      ·
       rw [if_pos c32] at H
       have LMc32 := Aside0.mk c32
       clear c32
       obtain ⟨y164, hy164⟩ : ∃ y_ : List Int, y_ = (((rd_T61 t154 t157).f5) ++ [a2]) := ⟨_, rfl⟩
       replace H : ((some (t154.set (t157 : Int).toNat (⟨(rd_T61 t154 t157).f0, (rd_T61 t154 t157).f1, (rd_T61 t154 t157).f2, (rd_T61 t154 t157).f3, (rd_T61 t154 t157).f4, y164⟩ : S61) : List (S61))).bind fun y167 => (if 0 ≤ t158 then (if t158 < (t154.length : Int) then (if ((rd_T61 y167 t158).f5).length < 17592186044416 then ((some (y167.set (t158 : Int).toNat (⟨(rd_T61 y167 t158).f0, (rd_T61 y167 t158).f1, (rd_T61 y167 t158).f2, (rd_T61 y167 t158).f3, (rd_T61 y167 t158).f4, (((rd_T61 y167 t158).f5) ++ [a1])⟩ : S61) : List (S61))).bind fun y172 => ((some (y172.set (t157 : Int).toNat (⟨(rd_T61 y172 t157).f0, (rd_T61 y172 t157).f1, (rd_T61 y172 t157).f2, (rd_T61 y172 t157).f3, wrap64 (((rd_T61 y172 t157).f4) + 1), (rd_T61 y172 t157).f5⟩ : S61) : List (S61))).bind fun y174 => ((some (y174.set (t157 : Int).toNat (⟨(rd_T61 y174 t157).f0, (rd_T61 y174 t157).f1, (rd_T61 y174 t157).f2, wrap64 (((rd_T61 y174 t157).f3) + a4), (rd_T61 y174 t157).f4, (rd_T61 y174 t157).f5⟩ : S61) : List (S61))).bind fun y176 => ((some (y176.set (t158 : Int).toNat (⟨(rd_T61 y176 t158).f0, (rd_T61 y176 t158).f1, (rd_T61 y176 t158).f2, wrap64 (((rd_T61 y176 t158).f3) + a5), (rd_T61 y176 t158).f4, (rd_T61 y176 t158).f5⟩ : S61) : List (S61))).bind fun y178 => (if a3 = 1 then (spec_AddResult.j1 kj9 l0 (y178.set (t157 : Int).toNat (⟨(rd_T61 y178 t157).f0, (rd_T61 y178 t157).f1, wrap64 (((rd_T61 y178 t157).f2) + 1), (rd_T61 y178 t157).f3, (rd_T61 y178 t157).f4, (rd_T61 y178 t157).f5⟩ : S61))) else (spec_AddResult.j1 kj9 l0 (y178.set (t158 : Int).toNat (⟨(rd_T61 y178 t158).f0, (rd_T61 y178 t158).f1, wrap64 (((rd_T61 y178 t158).f2) + 1), (rd_T61 y178 t158).f3, (rd_T61 y178 t158).f4, (rd_T61 y178 t158).f5⟩ : S61)))))))) else (none)) else (none)) else (none))) = some (r1, r2) := by first | (rw [hy164]; with_reducible exact H) | (have H2_ := (Option.bind_some _ _).symm.trans H; rw [hy164]; with_reducible exact H2_) | (have H2_ := (Option.bind_some _ _).symm.trans H; with_reducible exact H2_) | with_reducible exact H | (rw [hy164]; exact H) | exact H
       have Ny164 := Aside0.mk hy164
       clear hy164
       obtain ⟨y167, hy167⟩ : ∃ y_ : List (S61), y_ = (t154.set (t157 : Int).toNat (⟨(rd_T61 t154 t157).f0, (rd_T61 t154 t157).f1, (rd_T61 t154 t157).f2, (rd_T61 t154 t157).f3, (rd_T61 t154 t157).f4, y164⟩ : S61)) := ⟨_, rfl⟩
       replace H : (if 0 ≤ t158 then (if t158 < (t154.length : Int) then (if ((rd_T61 y167 t158).f5).length < 17592186044416 then ((some (y167.set (t158 : Int).toNat (⟨(rd_T61 y167 t158).f0, (rd_T61 y167 t158).f1, (rd_T61 y167 t158).f2, (rd_T61 y167 t158).f3, (rd_T61 y167 t158).f4, (((rd_T61 y167 t158).f5) ++ [a1])⟩ : S61) : List (S61))).bind fun y172 => ((some (y172.set (t157 : Int).toNat (⟨(rd_T61 y172 t157).f0, (rd_T61 y172 t157).f1, (rd_T61 y172 t157).f2, (rd_T61 y172 t157).f3, wrap64 (((rd_T61 y172 t157).f4) + 1), (rd_T61 y172 t157).f5⟩ : S61) : List (S61))).bind fun y174 => ((some (y174.set (t157 : Int).toNat (⟨(rd_T61 y174 t157).f0, (rd_T61 y174 t157).f1, (rd_T61 y174 t157).f2, wrap64 (((rd_T61 y174 t157).f3) + a4), (rd_T61 y174 t157).f4, (rd_T61 y174 t157).f5⟩ : S61) : List (S61))).bind fun y176 => ((some (y176.set (t158 : Int).toNat (⟨(rd_T61 y176 t158).f0, (rd_T61 y176 t158).f1, (rd_T61 y176 t158).f2, wrap64 (((rd_T61 y176 t158).f3) + a5), (rd_T61 y176 t158).f4, (rd_T61 y176 t158).f5⟩ : S61) : List (S61))).bind fun y178 => (if a3 = 1 then (spec_AddResult.j1 kj9 l0 (y178.set (t157 : Int).toNat (⟨(rd_T61 y178 t157).f0, (rd_T61 y178 t157).f1, wrap64 (((rd_T61 y178 t157).f2) + 1), (rd_T61 y178 t157).f3, (rd_T61 y178 t157).f4, (rd_T61 y178 t157).f5⟩ : S61))) else (spec_AddResult.j1 kj9 l0 (y178.set (t158 : Int).toNat (⟨(rd_T61 y178 t158).f0, (rd_T61 y178 t158).f1, wrap64 (((rd_T61 y178 t158).f2) + 1), (rd_T61 y178 t158).f3, (rd_T61 y178 t158).f4, (rd_T61 y178 t158).f5⟩ : S61)))))))) else (none)) else (none)) else (none)) = some (r1, r2) := by first | (rw [hy167]; with_reducible exact H) | (have H2_ := (Option.bind_some _ _).symm.trans H; rw [hy167]; with_reducible exact H2_) | (have H2_ := (Option.bind_some _ _).symm.trans H; with_reducible exact H2_) | with_reducible exact H | (rw [hy167]; exact H) | exact H
       have Ny167 := Aside0.mk hy167
       clear hy167
       by_cases c34 : 0 ≤ t158
       ·
        rw [if_pos c34] at H
        have c34b0 : decide (0 ≤ t158) = true := decide_eq_true c34
        clear c34
        by_cases c35 : t158 < (t154.length : Int)
        ·
         rw [if_pos c35] at H
         have c35b0 : decide (t158 < (t154.length : Int)) = true := decide_eq_true c35
         clear c35
         by_cases c36 : ((rd_T61 y167 t158).f5).length < 17592186044416
         ·
          rw [if_pos c36] at H
          have LMc36 := Aside0.mk c36
          clear c36
          obtain ⟨y169, hy169⟩ : ∃ y_ : List Int, y_ = (((rd_T61 y167 t158).f5) ++ [a1]) := ⟨_, rfl⟩
          replace H : ((some (y167.set (t158 : Int).toNat (⟨(rd_T61 y167 t158).f0, (rd_T61 y167 t158).f1, (rd_T61 y167 t158).f2, (rd_T61 y167 t158).f3, (rd_T61 y167 t158).f4, y169⟩ : S61) : List (S61))).bind fun y172 => ((some (y172.set (t157 : Int).toNat (⟨(rd_T61 y172 t157).f0, (rd_T61 y172 t157).f1, (rd_T61 y172 t157).f2, (rd_T61 y172 t157).f3, wrap64 (((rd_T61 y172 t157).f4) + 1), (rd_T61 y172 t157).f5⟩ : S61) : List (S61))).bind fun y174 => ((some (y174.set (t157 : Int).toNat (⟨(rd_T61 y174 t157).f0, (rd_T61 y174 t157).f1, (rd_T61 y174 t157).f2, wrap64 (((rd_T61 y174 t157).f3) + a4), (rd_T61 y174 t157).f4, (rd_T61 y174 t157).f5⟩ : S61) : List (S61))).bind fun y176 => ((some (y176.set (t158 : Int).toNat (⟨(rd_T61 y176 t158).f0, (rd_T61 y176 t158).f1, (rd_T61 y176 t158).f2, wrap64 (((rd_T61 y176 t158).f3) + a5), (rd_T61 y176 t158).f4, (rd_T61 y176 t158).f5⟩ : S61) : List (S61))).bind fun y178 => (if a3 = 1 then (spec_AddResult.j1 kj9 l0 (y178.set (t157 : Int).toNat (⟨(rd_T61 y178 t157).f0, (rd_T61 y178 t157).f1, wrap64 (((rd_T61 y178 t157).f2) + 1), (rd_T61 y178 t157).f3, (rd_T61 y178 t157).f4, (rd_T61 y178 t157).f5⟩ : S61))) else (spec_AddResult.j1 kj9 l0 (y178.set (t158 : Int).toNat (⟨(rd_T61 y178 t158).f0, (rd_T61 y178 t158).f1, wrap64 (((rd_T61 y178 t158).f2) + 1), (rd_T61 y178 t158).f3, (rd_T61 y178 t158).f4, (rd_T61 y178 t158).f5⟩ : S61)))))))) = some (r1, r2) := by first | (rw [hy169]; with_reducible exact H) | (have H2_ := (Option.bind_some _ _).symm.trans H; rw [hy169]; with_reducible exact H2_) | (have H2_ := (Option.bind_some _ _).symm.trans H; with_reducible exact H2_) | with_reducible exact H | (rw [hy169]; exact H) | exact H
          have Ny169 := Aside0.mk hy169
          clear hy169
          obtain ⟨y172, hy172⟩ : ∃ y_ : List (S61), y_ = (y167.set (t158 : Int).toNat (⟨(rd_T61 y167 t158).f0, (rd_T61 y167 t158).f1, (rd_T61 y167 t158).f2, (rd_T61 y167 t158).f3, (rd_T61 y167 t158).f4, y169⟩ : S61)) := ⟨_, rfl⟩
          replace H : ((some (y172.set (t157 : Int).toNat (⟨(rd_T61 y172 t157).f0, (rd_T61 y172 t157).f1, (rd_T61 y172 t157).f2, (rd_T61 y172 t157).f3, wrap64 (((rd_T61 y172 t157).f4) + 1), (rd_T61 y172 t157).f5⟩ : S61) : List (S61))).bind fun y174 => ((some (y174.set (t157 : Int).toNat (⟨(rd_T61 y174 t157).f0, (rd_T61 y174 t157).f1, (rd_T61 y174 t157).f2, wrap64 (((rd_T61 y174 t157).f3) + a4), (rd_T61 y174 t157).f4, (rd_T61 y174 t157).f5⟩ : S61) : List (S61))).bind fun y176 => ((some (y176.set (t158 : Int).toNat (⟨(rd_T61 y176 t158).f0, (rd_T61 y176 t158).f1, (rd_T61 y176 t158).f2, wrap64 (((rd_T61 y176 t158).f3) + a5), (rd_T61 y176 t158).f4, (rd_T61 y176 t158).f5⟩ : S61) : List (S61))).bind fun y178 => (if a3 = 1 then (spec_AddResult.j1 kj9 l0 (y178.set (t157 : Int).toNat (⟨(rd_T61 y178 t157).f0, (rd_T61 y178 t157).f1, wrap64 (((rd_T61 y178 t157).f2) + 1), (rd_T61 y178 t157).f3, (rd_T61 y178 t157).f4, (rd_T61 y178 t157).f5⟩ : S61))) else (spec_AddResult.j1 kj9 l0 (y178.set (t158 : Int).toNat (⟨(rd_T61 y178 t158).f0, (rd_T61 y178 t158).f1, wrap64 (((rd_T61 y178 t158).f2) + 1), (rd_T61 y178 t158).f3, (rd_T61 y178 t158).f4, (rd_T61 y178 t158).f5⟩ : S61))))))) = some (r1, r2) := by first | (rw [hy172]; with_reducible exact H) | (have H2_ := (Option.bind_some _ _).symm.trans H; rw [hy172]; with_reducible exact H2_) | (have H2_ := (Option.bind_some _ _).symm.trans H; with_reducible exact H2_) | with_reducible exact H | (rw [hy172]; exact H) | exact H
          have Ny172 := Aside0.mk hy172
          clear hy172
          obtain ⟨y174, hy174⟩ : ∃ y_ : List (S61), y_ = (y172.set (t157 : Int).toNat (⟨(rd_T61 y172 t157).f0, (rd_T61 y172 t157).f1, (rd_T61 y172 t157).f2, (rd_T61 y172 t157).f3, wrap64 (((rd_T61 y172 t157).f4) + 1), (rd_T61 y172 t157).f5⟩ : S61)) := ⟨_, rfl⟩
          replace H : ((some (y174.set (t157 : Int).toNat (⟨(rd_T61 y174 t157).f0, (rd_T61 y174 t157).f1, (rd_T61 y174 t157).f2, wrap64 (((rd_T61 y174 t157).f3) + a4), (rd_T61 y174 t157).f4, (rd_T61 y174 t157).f5⟩ : S61) : List (S61))).bind fun y176 => ((some (y176.set (t158 : Int).toNat (⟨(rd_T61 y176 t158).f0, (rd_T61 y176 t158).f1, (rd_T61 y176 t158).f2, wrap64 (((rd_T61 y176 t158).f3) + a5), (rd_T61 y176 t158).f4, (rd_T61 y176 t158).f5⟩ : S61) : List (S61))).bind fun y178 => (if a3 = 1 then (spec_AddResult.j1 kj9 l0 (y178.set (t157 : Int).toNat (⟨(rd_T61 y178 t157).f0, (rd_T61 y178 t157).f1, wrap64 (((rd_T61 y178 t157).f2) + 1), (rd_T61 y178 t157).f3, (rd_T61 y178 t157).f4, (rd_T61 y178 t157).f5⟩ : S61))) else (spec_AddResult.j1 kj9 l0 (y178.set (t158 : Int).toNat (⟨(rd_T61 y178 t158).f0, (rd_T61 y178 t158).f1, wrap64 (((rd_T61 y178 t158).f2) + 1), (rd_T61 y178 t158).f3, (rd_T61 y178 t158).f4, (rd_T61 y178 t158).f5⟩ : S61)))))) = some (r1, r2) := by first | (rw [hy174]; with_reducible exact H) | (have H2_ := (Option.bind_some _ _).symm.trans H; rw [hy174]; with_reducible exact H2_) | (have H2_ := (Option.bind_some _ _).symm.trans H; with_reducible exact H2_) | with_reducible exact H | (rw [hy174]; exact H) | exact H
          have Ny174 := Aside0.mk hy174
          clear hy174
          obtain ⟨y176, hy176⟩ : ∃ y_ : List (S61), y_ = (y174.set (t157 : Int).toNat (⟨(rd_T61 y174 t157).f0, (rd_T61 y174 t157).f1, (rd_T61 y174 t157).f2, wrap64 (((rd_T61 y174 t157).f3) + a4), (rd_T61 y174 t157).f4, (rd_T61 y174 t157).f5⟩ : S61)) := ⟨_, rfl⟩
          replace H : ((some (y176.set (t158 : Int).toNat (⟨(rd_T61 y176 t158).f0, (rd_T61 y176 t158).f1, (rd_T61 y176 t158).f2, wrap64 (((rd_T61 y176 t158).f3) + a5), (rd_T61 y176 t158).f4, (rd_T61 y176 t158).f5⟩ : S61) : List (S61))).bind fun y178 => (if a3 = 1 then (spec_AddResult.j1 kj9 l0 (y178.set (t157 : Int).toNat (⟨(rd_T61 y178 t157).f0, (rd_T61 y178 t157).f1, wrap64 (((rd_T61 y178 t157).f2) + 1), (rd_T61 y178 t157).f3, (rd_T61 y178 t157).f4, (rd_T61 y178 t157).f5⟩ : S61))) else (spec_AddResult.j1 kj9 l0 (y178.set (t158 : Int).toNat (⟨(rd_T61 y178 t158).f0, (rd_T61 y178 t158).f1, wrap64 (((rd_T61 y178 t158).f2) + 1), (rd_T61 y178 t158).f3, (rd_T61 y178 t158).f4, (rd_T61 y178 t158).f5⟩ : S61))))) = some (r1, r2) := by first | (rw [hy176]; with_reducible exact H) | (have H2_ := (Option.bind_some _ _).symm.trans H; rw [hy176]; with_reducible exact H2_) | (have H2_ := (Option.bind_some _ _).symm.trans H; with_reducible exact H2_) | with_reducible exact H | (rw [hy176]; exact H) | exact H
          have Ny176 := Aside0.mk hy176
          clear hy176
          obtain ⟨y178, hy178⟩ : ∃ y_ : List (S61), y_ = (y176.set (t158 : Int).toNat (⟨(rd_T61 y176 t158).f0, (rd_T61 y176 t158).f1, (rd_T61 y176 t158).f2, wrap64 (((rd_T61 y176 t158).f3) + a5), (rd_T61 y176 t158).f4, (rd_T61 y176 t158).f5⟩ : S61)) := ⟨_, rfl⟩
          replace H : (if a3 = 1 then (spec_AddResult.j1 kj9 l0 (y178.set (t157 : Int).toNat (⟨(rd_T61 y178 t157).f0, (rd_T61 y178 t157).f1, wrap64 (((rd_T61 y178 t157).f2) + 1), (rd_T61 y178 t157).f3, (rd_T61 y178 t157).f4, (rd_T61 y178 t157).f5⟩ : S61))) else (spec_AddResult.j1 kj9 l0 (y178.set (t158 : Int).toNat (⟨(rd_T61 y178 t158).f0, (rd_T61 y178 t158).f1, wrap64 (((rd_T61 y178 t158).f2) + 1), (rd_T61 y178 t158).f3, (rd_T61 y178 t158).f4, (rd_T61 y178 t158).f5⟩ : S61)))) = some (r1, r2) := by first | (rw [hy178]; with_reducible exact H) | (have H2_ := (Option.bind_some _ _).symm.trans H; rw [hy178]; with_reducible exact H2_) | (have H2_ := (Option.bind_some _ _).symm.trans H; with_reducible exact H2_) | with_reducible exact H | (rw [hy178]; exact H) | exact H
          have Ny178 := Aside0.mk hy178
          clear hy178
          have HC41 := Aside0.mk H
          clear H
          obtain ⟨Ao42, co42, eo42⟩ := Kd.S_slice HO_14.out
          subst eo42
          have p163 : 0 ≤ (t157 : Int) := of_decide_eq_true (by first | (with_reducible assumption) | assumption)
          have q163 : t157 < (t154.length : Int) := of_decide_eq_true (by first | (with_reducible assumption) | assumption)
          obtain ⟨ad163, A163_5, c163_5, e163, hx163_0, hx163_1, hx163_2, hx163_3, hx163_4, hx163_5, hl163_5, hi163_5⟩ := at_T61 (Kd.S_reads' HO_14.out).2.2 t157 p163 q163
          cases e163
          obtain ⟨ce163, hce163, hMe163, hcc163⟩ := Kd.S_get HO_14.out z61 t157 p163 (by first | exact q163 | exact of_decide_eq_true (by first | (with_reducible assumption) | assumption) | (have e_ := (Kd.S_reads' HO_14.out).1; omega))
          obtain ⟨ve163_5, rfl, ge163_5⟩ := k61_openM hMe163
          have hv163_5 := hcc163 5 _ rfl
          rw [add_field _ _ 5 (by omega)] at hv163_5
          replace hv163_5 := Option.some.inj (hv163_5.symm.trans hx163_5)
          rw [hv163_5] at ge163_5
          have HL163_5 := Aside0.mk (show Kd.R (Kd.int .i64) 3 _ _ _ _ ((rd_T61 t154 t157).f5) from ge163_5)
          clear hv163_5 ge163_5
          have HX163_5 := Aside0.mk hx163_5
          clear hcc163 hce163
          have HR163_5 := Aside0.mk hi163_5
          have HC163_5 := Aside0.mk hl163_5
          clear hi163_5 hl163_5
          replace p163 := eq_true p163
          replace q163 := eq_true q163
          obtain ⟨go43, co43, eo43, gb43, gl43, cl43, HG43⟩ := Kd.S_form HO_14.out (by have h_ : (t157 : Int) < ((t154.length : Int) : Int) := of_decide_eq_true (by first | (with_reducible assumption) | assumption); have h2_ : 0 ≤ (t157 : Int) := (of_decide_eq_true (by first | (with_reducible assumption) | assumption)); omega)
          (first | cases eo43 | (injection eo43 with ea_ en_ ec_; (first | subst ea_ | (injection ea_ with ea_; subst ea_)); subst ec_; clear en_))
          have GB43 := Aside0.mk gb43
          have GG43 := Aside0.mk HG43
          clear gb43 gl43 HG43
          (first | simp only [add_plain] at hx163_0 | skip)
          (first | simp only [add_plain] at hx163_1 | skip)
          (first | simp only [add_plain] at hx163_2 | skip)
          (first | simp only [add_plain] at hx163_3 | skip)
          (first | simp only [add_plain] at hx163_4 | skip)
          (first | simp only [add_plain] at hx163_5 | skip)
          obtain ⟨oki43, ce43, hcl43, hM43, hcc43, _, _, hH43⟩ := Kd.S_elem HO_14.out z61 (t157 : Int) (of_decide_eq_true (by first | (with_reducible assumption) | assumption)) (by have h_ : (t157 : Int) < ((t154.length : Int) : Int) := of_decide_eq_true (by first | (with_reducible assumption) | assumption); first | exact h_ | (have e_ := (Kd.S_reads' HO_14.out).1; omega) | simpa using h_)
          obtain ⟨ve43_5, rfl, ge43_5⟩ := k61_openM hM43
          have hv43 := hcc43 5 _ rfl
          have hX43 := HX163_5.out
          (try simp only [add_plain] at hX43)
          (try simp only [Nat.add_zero] at hv43)
          replace hv43 := Option.some.inj (hv43.symm.trans hX43)
          subst hv43
          clear hX43 hcc43 hcl43
          have UU43 := Aside0.mk (show Kd.R (Kd.int .i64) 3 _ w.heap.size oki43 (.slice A163_5 ((rd_T61 t154 t157).f5).length c163_5) ((rd_T61 t154 t157).f5) from ge43_5)
          have HH43 := Aside0.mk hH43
          have HN43 := Aside0.mk (Kd.S_reads' HO_14.out).1
          clear hH43 ge43_5
          go_upto_if 114 with (first | ((with_reducible refine gate_builtin (b := .append) (xs := #[.tmp 63, .tmp 65]) rfl ?_); at_builtin; refine Kd.R_append (Kd.int .i64) (w0 := w) w.heap.size rfl (.tmp 63) (.tmp 65) 41 3 (.int .i64 0) 8 rfl Try.underlying41 info3 rfl (by decide) (by omega) (.slice A163_5 ((rd_T61 t154 t157).f5).length c163_5) ((rd_T61 t154 t157).f5) a2 [.int .i64 a2] (fun k_ => oki43 k_ ∨ ((fun _ => True)) k_ ∧ wc.heap.size ≤ k_) (fun _ => False) rfl rfl ?aP (fun _ hk => hk.elim) ?aF ?aO ?aB ?aS ?aL ?_; (case aP => exact rfl); (case aB => exact (by repeat (first | (with_reducible first | exact HB.out | apply below_alloc | apply pw_below_drewN | apply below_drew1) | exact HB.out))); (case aF => exact (fun k_ hk => .inr ⟨trivial, hk⟩)); (case aO => exact (by (with_reducible repeat (first | apply Kd.R_alloc | apply Kd.R_drewN | apply Kd.R_drew)); exact Kd.R_mono UU43.out (fun _ hk => .inl hk))); (case aS => exact (below_size (by repeat (first | (with_reducible first | exact HB.out | apply below_alloc | apply pw_below_drewN | apply below_drew1) | exact HB.out)))); (case aL => have := LMc32.out; omega); intro v165 w44 ho hb hg hat; rw [← Ny164.out] at ho; have n0_ := Aside0.mk (hb); have n1_ := Aside0.mk (Kd.H_grown (Kd.H_widen (by repeat (first | exact HH43.out | refine Kd.H_alloc ?_ _ | refine Kd.H_drewN ?_ _ | refine Kd.H_drew ?_))) hg (fun k_ e_ => .inl (UU43.out.1 k_ e_))); have n2_ := Aside0.mk (ho); clear HB; clear HH43; clear HO_14; clear UU43; clear HL163_5; have HB := n0_; have HH43 := n1_; have HO166 := n2_; clear n0_ n1_ n2_; clear ho hb hg hat; have p33 : 0 ≤ (t157 : Int) := of_decide_eq_true (by first | (with_reducible assumption) | assumption); have q33 : (t157 : Int) < ((t154.length : Int) : Int) := of_decide_eq_true (by first | (with_reducible assumption) | assumption); replace p33 := eq_true p33; replace q33 := eq_true q33; obtain ⟨Ao47, co47, eo47⟩ := Kd.R_slice HO166.out; subst eo47; obtain ⟨_, _, hraw45, _, _, hcc45, _⟩ := Kd.H_raw HH43.out (of_decide_eq_true (by first | (with_reducible assumption) | assumption)) (by have h_ : (t157 : Int) < ((t154.length : Int) : Int) := of_decide_eq_true (by first | (with_reducible assumption) | assumption); first | exact h_ | (have e_ := (HN43.out); omega) | simpa using h_); obtain ⟨_, hfr45⟩ := Kd.H_at HH43.out (of_decide_eq_true (by first | (with_reducible assumption) | assumption)) (by have h_ : (t157 : Int) < ((t154.length : Int) : Int) := of_decide_eq_true (by first | (with_reducible assumption) | assumption); first | exact h_ | (have e_ := (HN43.out); omega) | simpa using h_); have hx45_0 := hcc45 5 _ rfl; have hf45_0 := hfr45 5; (try rw [show (k61).sz = 6 from rfl] at hx45_0); (try rw [show (k61).sz = 6 from rfl] at hf45_0); have HP45 := Kd.S_seg0 HH43.out (of_decide_eq_true (by first | (with_reducible assumption) | assumption)) (by have h_ : (t157 : Int) < ((t154.length : Int) : Int) := of_decide_eq_true (by first | (with_reducible assumption) | assumption); first | exact h_ | (have e_ := (HN43.out); omega) | simpa using h_) (seg := [.slice Ao47 y164.length co47]) (j := 5) (show 6 ≤ 6 from by decide) (x' := (⟨(rd_T61 t154 t157).f0, (rd_T61 t154 t157).f1, (rd_T61 t154 t157).f2, (rd_T61 t154 t157).f3, (rd_T61 t154 t157).f4, y164⟩ : S61)) (k61_mkM _ _ _ (⟨(rd_T61 t154 t157).f0, (rd_T61 t154 t157).f1, (rd_T61 t154 t157).f2, (rd_T61 t154 t157).f3, (rd_T61 t154 t157).f4, y164⟩ : S61) HO166.out) (fun _ hk => hk); clear hcc45 hfr45) | ((with_reducible refine gate_store (t := 41) (p := 68) rfl ?_); refine store_event (t := 41) (p := 68) (v := ?vo_w46) (w1 := (w44.setCell ⟨go43, (t157 : Int).toNat * 6 + 5, none⟩ (.slice Ao47 y164.length co47))) ?hg ?ho ?hn ?hr ?_; (case ho => rfl); (case hg => rfl); (case hn => rfl); (case hr => first | (go_simp; done) | (go_simp; rfl)); intro w46 hw; have hg : w44.grownBy w46 (some go43) := (by rw [hw]; exact HP45.2); have hp_ : Kd.S k61 61 w46 w.heap.size (fun _ => True) (.slice (some ⟨go43, 0, none⟩) t154.length co42) y167 := (by rw [hw, Ny167.out]; exact HP45.1); clear HP45; have n0_ := Aside0.mk ((by rw [hw]; exact below_set HB.out GB43.out : Below w.heap.size w w46)); have n1_ := Aside0.mk (hp_); clear HB; clear HO166; clear HH43; have HB := n0_; have HO_14 := n1_; clear n0_ n1_; clear hg hw hp_ hraw45; have p168 : 0 ≤ (t158 : Int) := of_decide_eq_true (by first | (with_reducible assumption) | assumption); have q168 : t158 < (y167.length : Int) := (by have h_ : (t158 : Int) < ((t154.length : Int) : Int) := of_decide_eq_true (by first | (with_reducible assumption) | assumption); first | (have e_ := (Kd.S_reads' HO_14.out).1; omega) | simpa only [Ny167.out, List.length_set] using h_); have ql168 : ((t158 : Int) < ((t154.length : Int) : Int)) = True := eq_true (of_decide_eq_true (by first | (with_reducible assumption) | assumption)); obtain ⟨ad168, A168_5, c168_5, e168, hx168_0, hx168_1, hx168_2, hx168_3, hx168_4, hx168_5, hl168_5, hi168_5⟩ := at_T61 (Kd.S_reads' HO_14.out).2.2 t158 p168 q168; obtain rfl : (⟨go43, 0, none⟩ : Addr) = ad168 := (by injection e168); obtain ⟨ce168, hce168, hMe168, hcc168⟩ := Kd.S_get HO_14.out z61 t158 p168 (by first | exact q168 | exact of_decide_eq_true (by first | (with_reducible assumption) | assumption) | (have e_ := (Kd.S_reads' HO_14.out).1; omega)); obtain ⟨ve168_5, rfl, ge168_5⟩ := k61_openM hMe168; have hv168_5 := hcc168 5 _ rfl; rw [add_field _ _ 5 (by omega)] at hv168_5; replace hv168_5 := Option.some.inj (hv168_5.symm.trans hx168_5); rw [hv168_5] at ge168_5; have HL168_5 := Aside0.mk (show Kd.R (Kd.int .i64) 3 _ _ _ _ ((rd_T61 y167 t158).f5) from ge168_5); clear hv168_5 ge168_5; have HX168_5 := Aside0.mk hx168_5; clear hcc168 hce168; (first | simp only [add_plain] at hx168_0 | simp only [add_at] at hx168_0 | simp only [Addr.add, Nat.zero_add] at hx168_0 | skip); (first | simp only [add_plain] at hx168_1 | simp only [add_at] at hx168_1 | simp only [Addr.add, Nat.zero_add] at hx168_1 | skip); (first | simp only [add_plain] at hx168_2 | simp only [add_at] at hx168_2 | simp only [Addr.add, Nat.zero_add] at hx168_2 | skip); (first | simp only [add_plain] at hx168_3 | simp only [add_at] at hx168_3 | simp only [Addr.add, Nat.zero_add] at hx168_3 | skip); (first | simp only [add_plain] at hx168_4 | simp only [add_at] at hx168_4 | simp only [Addr.add, Nat.zero_add] at hx168_4 | skip); (first | simp only [add_plain] at hx168_5 | simp only [add_at] at hx168_5 | simp only [Addr.add, Nat.zero_add] at hx168_5 | skip); have HR168_5 := Aside0.mk hi168_5; have HC168_5 := Aside0.mk hl168_5; clear hi168_5 hl168_5; replace p168 := eq_true p168; replace q168 := eq_true q168; obtain ⟨oki48, ce48, hcl48, hM48, hcc48, _, _, hH48⟩ := Kd.S_elem HO_14.out z61 (t158 : Int) (of_decide_eq_true (by first | (with_reducible assumption) | assumption)) (by have h_ : (t158 : Int) < ((t154.length : Int) : Int) := of_decide_eq_true (by first | (with_reducible assumption) | assumption); first | exact h_ | (have e_ := (Kd.S_reads' HO_14.out).1; omega) | simpa using h_); obtain ⟨ve48_5, rfl, ge48_5⟩ := k61_openM hM48; have hv48 := hcc48 5 _ rfl; have hX48 := HX168_5.out; (try simp only [add_plain] at hX48); (try simp only [Nat.add_zero] at hv48); replace hv48 := Option.some.inj (hv48.symm.trans hX48); subst hv48; clear hX48 hcc48 hcl48; have UU48 := Aside0.mk (show Kd.R (Kd.int .i64) 3 _ w.heap.size oki48 (.slice A168_5 ((rd_T61 y167 t158).f5).length c168_5) ((rd_T61 y167 t158).f5) from ge48_5); have HH48 := Aside0.mk hH48; have HN48 := Aside0.mk (Kd.S_reads' HO_14.out).1; clear hH48 ge48_5) | ((with_reducible refine gate_builtin (b := .append) (xs := #[.tmp 75, .tmp 77]) rfl ?_); at_builtin; refine Kd.R_append (Kd.int .i64) (w0 := w) w.heap.size rfl (.tmp 75) (.tmp 77) 41 3 (.int .i64 0) 8 rfl Try.underlying41 info3 rfl (by decide) (by omega) (.slice A168_5 ((rd_T61 y167 t158).f5).length c168_5) ((rd_T61 y167 t158).f5) a1 [.int .i64 a1] (fun k_ => oki48 k_ ∨ ((fun _ => True)) k_ ∧ w46.heap.size ≤ k_) (fun _ => False) rfl rfl ?aP (fun _ hk => hk.elim) ?aF ?aO ?aB ?aS ?aL ?_; (case aP => exact rfl); (case aB => exact (by repeat (first | (with_reducible first | exact HB.out | apply below_alloc | apply pw_below_drewN | apply below_drew1) | exact HB.out))); (case aF => exact (fun k_ hk => .inr ⟨trivial, hk⟩)); (case aO => exact (by (with_reducible repeat (first | apply Kd.R_alloc | apply Kd.R_drewN | apply Kd.R_drew)); exact Kd.R_mono UU48.out (fun _ hk => .inl hk))); (case aS => exact (below_size (by repeat (first | (with_reducible first | exact HB.out | apply below_alloc | apply pw_below_drewN | apply below_drew1) | exact HB.out)))); (case aL => have := LMc36.out; omega); intro v170 w49 ho hb hg hat; rw [← Ny169.out] at ho; have n0_ := Aside0.mk (hb); have n1_ := Aside0.mk (Kd.H_grown (Kd.H_widen (by repeat (first | exact HH48.out | refine Kd.H_alloc ?_ _ | refine Kd.H_drewN ?_ _ | refine Kd.H_drew ?_))) hg (fun k_ e_ => .inl (UU48.out.1 k_ e_))); have n2_ := Aside0.mk (ho); clear HB; clear HH48; clear HO_14; clear UU48; clear HL168_5; have HB := n0_; have HH48 := n1_; have HO171 := n2_; clear n0_ n1_ n2_; clear ho hb hg hat; have p37 : 0 ≤ (t158 : Int) := of_decide_eq_true (by first | (with_reducible assumption) | assumption); have q37 : (t158 : Int) < ((t154.length : Int) : Int) := of_decide_eq_true (by first | (with_reducible assumption) | assumption); replace p37 := eq_true p37; replace q37 := eq_true q37; obtain ⟨Ao52, co52, eo52⟩ := Kd.R_slice HO171.out; subst eo52; obtain ⟨_, _, hraw50, _, _, hcc50, _⟩ := Kd.H_raw HH48.out (of_decide_eq_true (by first | (with_reducible assumption) | assumption)) (by have h_ : (t158 : Int) < ((t154.length : Int) : Int) := of_decide_eq_true (by first | (with_reducible assumption) | assumption); first | exact h_ | (have e_ := (HN48.out); omega) | simpa using h_); obtain ⟨_, hfr50⟩ := Kd.H_at HH48.out (of_decide_eq_true (by first | (with_reducible assumption) | assumption)) (by have h_ : (t158 : Int) < ((t154.length : Int) : Int) := of_decide_eq_true (by first | (with_reducible assumption) | assumption); first | exact h_ | (have e_ := (HN48.out); omega) | simpa using h_); have hx50_0 := hcc50 5 _ rfl; have hf50_0 := hfr50 5; (try rw [show (k61).sz = 6 from rfl] at hx50_0); (try rw [show (k61).sz = 6 from rfl] at hf50_0); have HP50 := Kd.S_seg0 HH48.out (of_decide_eq_true (by first | (with_reducible assumption) | assumption)) (by have h_ : (t158 : Int) < ((t154.length : Int) : Int) := of_decide_eq_true (by first | (with_reducible assumption) | assumption); first | exact h_ | (have e_ := (HN48.out); omega) | simpa using h_) (seg := [.slice Ao52 y169.length co52]) (j := 5) (show 6 ≤ 6 from by decide) (x' := (⟨(rd_T61 y167 t158).f0, (rd_T61 y167 t158).f1, (rd_T61 y167 t158).f2, (rd_T61 y167 t158).f3, (rd_T61 y167 t158).f4, y169⟩ : S61)) (k61_mkM _ _ _ (⟨(rd_T61 y167 t158).f0, (rd_T61 y167 t158).f1, (rd_T61 y167 t158).f2, (rd_T61 y167 t158).f3, (rd_T61 y167 t158).f4, y169⟩ : S61) HO171.out) (fun _ hk => hk); clear hcc50 hfr50) | ((with_reducible refine gate_store (t := 41) (p := 80) rfl ?_); refine store_event (t := 41) (p := 80) (v := ?vo_w51) (w1 := (w49.setCell ⟨go43, (t158 : Int).toNat * 6 + 5, none⟩ (.slice Ao52 y169.length co52))) ?hg ?ho ?hn ?hr ?_; (case ho => rfl); (case hg => rfl); (case hn => rfl); (case hr => first | (go_simp; done) | (go_simp; rfl)); intro w51 hw; have hg : w49.grownBy w51 (some go43) := (by rw [hw]; exact HP50.2); have hp_ : Kd.S k61 61 w51 w.heap.size (fun _ => True) (.slice (some ⟨go43, 0, none⟩) t154.length co42) y172 := (by rw [hw, Ny172.out]; exact HP50.1); clear HP50; have n0_ := Aside0.mk ((by rw [hw]; exact below_set HB.out GB43.out : Below w.heap.size w w51)); have n1_ := Aside0.mk (hp_); clear HB; clear HO171; clear HH48; have HB := n0_; have HO_14 := n1_; clear n0_ n1_; clear hg hw hp_ hraw50; have p173 : 0 ≤ (t157 : Int) := of_decide_eq_true (by first | (with_reducible assumption) | assumption); have q173 : t157 < (y172.length : Int) := (by have h_ : (t157 : Int) < ((t154.length : Int) : Int) := of_decide_eq_true (by first | (with_reducible assumption) | assumption); first | (have e_ := (Kd.S_reads' HO_14.out).1; omega) | simpa only [Ny167.out, Ny172.out, List.length_set] using h_); have ql173 : ((t157 : Int) < ((t154.length : Int) : Int)) = True := eq_true (of_decide_eq_true (by first | (with_reducible assumption) | assumption)); obtain ⟨ad173, A173_5, c173_5, e173, hx173_0, hx173_1, hx173_2, hx173_3, hx173_4, hx173_5, hl173_5, hi173_5⟩ := at_T61 (Kd.S_reads' HO_14.out).2.2 t157 p173 q173; obtain rfl : (⟨go43, 0, none⟩ : Addr) = ad173 := (by injection e173); obtain ⟨ce173, hce173, hMe173, hcc173⟩ := Kd.S_get HO_14.out z61 t157 p173 (by first | exact q173 | exact of_decide_eq_true (by first | (with_reducible assumption) | assumption) | (have e_ := (Kd.S_reads' HO_14.out).1; omega)); obtain ⟨ve173_5, rfl, ge173_5⟩ := k61_openM hMe173; have hv173_5 := hcc173 5 _ rfl; rw [add_field _ _ 5 (by omega)] at hv173_5; replace hv173_5 := Option.some.inj (hv173_5.symm.trans hx173_5); rw [hv173_5] at ge173_5; have HL173_5 := Aside0.mk (show Kd.R (Kd.int .i64) 3 _ _ _ _ ((rd_T61 y172 t157).f5) from ge173_5); clear hv173_5 ge173_5; have HX173_5 := Aside0.mk hx173_5; clear hcc173 hce173; (first | simp only [add_plain] at hx173_0 | simp only [add_at] at hx173_0 | simp only [Addr.add, Nat.zero_add] at hx173_0 | skip); (first | simp only [add_plain] at hx173_1 | simp only [add_at] at hx173_1 | simp only [Addr.add, Nat.zero_add] at hx173_1 | skip); (first | simp only [add_plain] at hx173_2 | simp only [add_at] at hx173_2 | simp only [Addr.add, Nat.zero_add] at hx173_2 | skip); (first | simp only [add_plain] at hx173_3 | simp only [add_at] at hx173_3 | simp only [Addr.add, Nat.zero_add] at hx173_3 | skip); (first | simp only [add_plain] at hx173_4 | simp only [add_at] at hx173_4 | simp only [Addr.add, Nat.zero_add] at hx173_4 | skip); (first | simp only [add_plain] at hx173_5 | simp only [add_at] at hx173_5 | simp only [Addr.add, Nat.zero_add] at hx173_5 | skip); have HR173_5 := Aside0.mk hi173_5; have HC173_5 := Aside0.mk hl173_5; clear hi173_5 hl173_5; replace p173 := eq_true p173; replace q173 := eq_true q173; have p38 : 0 ≤ (t157 : Int) := of_decide_eq_true (by first | (with_reducible assumption) | assumption); have q38 : (t157 : Int) < ((t154.length : Int) : Int) := of_decide_eq_true (by first | (with_reducible assumption) | assumption); obtain ⟨_, ce38, hcl38, hM38, hcc38, hfr38, _, _⟩ := Kd.S_elem HO_14.out z61 (t157 : Int) p38 q38; obtain ⟨ve38_5, rfl, ge38_5⟩ := k61_openM hM38; have hx38_0 : w51.cell? ⟨go43, (t157 : Int).toNat * 6, none⟩ = some (.int .i64 ((rd_T61 y172 t157).f0)) := hcc38 0 _ rfl; have hx38_1 : w51.cell? ⟨go43, (t157 : Int).toNat * 6 + 1, none⟩ = some (.int .i64 ((rd_T61 y172 t157).f1)) := hcc38 1 _ rfl; have hx38_2 : w51.cell? ⟨go43, (t157 : Int).toNat * 6 + 2, none⟩ = some (.int .i64 ((rd_T61 y172 t157).f2)) := hcc38 2 _ rfl; have hx38_3 : w51.cell? ⟨go43, (t157 : Int).toNat * 6 + 3, none⟩ = some (.int .i64 ((rd_T61 y172 t157).f3)) := hcc38 3 _ rfl; have hx38_4 : w51.cell? ⟨go43, (t157 : Int).toNat * 6 + 4, none⟩ = some (.int .i64 ((rd_T61 y172 t157).f4)) := hcc38 4 _ rfl; have hx38_5 : w51.cell? ⟨go43, (t157 : Int).toNat * 6 + 5, none⟩ = some (ve38_5) := hcc38 5 _ rfl; have hf38_0 : w51.frozen? ⟨go43, (t157 : Int).toNat * 6, none⟩ = false := hfr38 0; have hf38_1 : w51.frozen? ⟨go43, (t157 : Int).toNat * 6 + 1, none⟩ = false := hfr38 1; have hf38_2 : w51.frozen? ⟨go43, (t157 : Int).toNat * 6 + 2, none⟩ = false := hfr38 2; have hf38_3 : w51.frozen? ⟨go43, (t157 : Int).toNat * 6 + 3, none⟩ = false := hfr38 3; have hf38_4 : w51.frozen? ⟨go43, (t157 : Int).toNat * 6 + 4, none⟩ = false := hfr38 4; have hf38_5 : w51.frozen? ⟨go43, (t157 : Int).toNat * 6 + 5, none⟩ = false := hfr38 5; clear hcl38 hcc38 hfr38 hM38; replace p38 := eq_true p38; replace q38 := eq_true q38; have HX53 := Aside0.mk (show Kd.S k61 61 w51 w.heap.size (fun k_ => ((fun _ => True)) k_ ∧ ¬ ((fun _ => False)) k_) (.slice (some ⟨go43, 0, none⟩) t154.length co42) y172 from (by (with_reducible repeat (first | apply Kd.S_alloc | apply Kd.S_drewN | apply Kd.S_drew)); exact Kd.S_mono HO_14.out (fun k_ hk => ⟨trivial, fun e_ => e_⟩))); obtain ⟨oki53, ce53, hcl53, hM53, hcc53, hfr53, hoki53, hH53⟩ := Kd.S_elem HX53.out z61 (t157 : Int) (of_decide_eq_true (by first | (with_reducible assumption) | assumption)) (by have h_ : (t157 : Int) < ((t154.length : Int) : Int) := of_decide_eq_true (by first | (with_reducible assumption) | assumption); first | exact h_ | (have e_ := (Kd.S_reads' HO_14.out).1; omega) | simpa using h_); obtain ⟨ve53_5, rfl, ge53_5⟩ := k61_openM hM53; have HP53 := Kd.S_seg hH53 (of_decide_eq_true (by first | (with_reducible assumption) | assumption)) (by have h_ : (t157 : Int) < ((t154.length : Int) : Int) := of_decide_eq_true (by first | (with_reducible assumption) | assumption); first | exact h_ | (have e_ := (Kd.S_reads' HO_14.out).1; omega) | simpa using h_) (seg := [.int .i64 (wrap64 (((rd_T61 y172 t157).f4) + 1))]) (j := 4) (show 5 ≤ 6 from by decide) (x' := (⟨(rd_T61 y172 t157).f0, (rd_T61 y172 t157).f1, (rd_T61 y172 t157).f2, (rd_T61 y172 t157).f3, wrap64 (((rd_T61 y172 t157).f4) + 1), (rd_T61 y172 t157).f5⟩ : S61)) (k61_mkM _ _ _ (⟨(rd_T61 y172 t157).f0, (rd_T61 y172 t157).f1, (rd_T61 y172 t157).f2, (rd_T61 y172 t157).f3, wrap64 (((rd_T61 y172 t157).f4) + 1), (rd_T61 y172 t157).f5⟩ : S61) (Kd.R_mono ge53_5 (fun _ h_ => Or.inl h_))) (fun _ hk => hk) (fun k_ hk_ => hk_.elim); have hx53_4 := hcc53 4 _ rfl; (try simp only [show (k61).sz = 6 from rfl, Nat.mul_one, Nat.add_zero] at hx53_4); have hf53_4 := hfr53 4; (try simp only [show (k61).sz = 6 from rfl, Nat.mul_one, Nat.add_zero] at hf53_4); clear hcl53 hcc53 hfr53 hM53 hoki53 hH53) | ((with_reducible refine gate_store (t := 3) (p := 90) rfl ?_); refine store_event (t := 3) (p := 90) (v := ?vo_w54) (w1 := (w51.setCell ⟨go43, (t157 : Int).toNat * 6 + 4, none⟩ (.int .i64 (wrap64 (((rd_T61 y172 t157).f4) + 1))))) ?hg ?ho ?hn ?hr ?_; (case ho => rfl); (case hg => rfl); (case hn => rfl); (case hr => first | (go_simp; done) | (go_simp; rfl)); intro w54 hw; have hg : w51.grownBy w54 (some go43) := (by rw [hw]; exact HP53.2); have hp_ : Kd.S k61 61 w54 w.heap.size (fun _ => True) (.slice (some ⟨go43, 0, none⟩) t154.length co42) y174 := (by rw [hw, Ny174.out]; exact HP53.1); clear HP53; have n0_ := Aside0.mk (hp_); have n1_ := Aside0.mk (Kd.R_after (v := (.slice (some ⟨go43, 0, none⟩) t154.length co42)) (v1 := (.slice (some ⟨go43, 0, none⟩) t154.length co42)) (ok := (fun _ => True)) (by (with_reducible repeat (first | apply Kd.R_alloc | apply Kd.R_drewN | apply Kd.R_drew)); exact HL173_5.out) hg (.inl rfl)); have n2_ := Aside0.mk ((by rw [hw]; exact below_set (HB.out) GB43.out : Below w.heap.size w w54)); clear HO_14; clear HL173_5; clear HB; have HO_14 := n0_; have HL173_5 := n1_; have HB := n2_; clear n0_ n1_ n2_; clear hg hw hp_; have p175 : 0 ≤ (t157 : Int) := of_decide_eq_true (by first | (with_reducible assumption) | assumption); have q175 : t157 < (y174.length : Int) := (by have h_ : (t157 : Int) < ((t154.length : Int) : Int) := of_decide_eq_true (by first | (with_reducible assumption) | assumption); first | (have e_ := (Kd.S_reads' HO_14.out).1; omega) | simpa only [Ny167.out, Ny172.out, Ny174.out, List.length_set] using h_); have ql175 : ((t157 : Int) < ((t154.length : Int) : Int)) = True := eq_true (of_decide_eq_true (by first | (with_reducible assumption) | assumption)); obtain ⟨ad175, A175_5, c175_5, e175, hx175_0, hx175_1, hx175_2, hx175_3, hx175_4, hx175_5, hl175_5, hi175_5⟩ := at_T61 (Kd.S_reads' HO_14.out).2.2 t157 p175 q175; obtain rfl : (⟨go43, 0, none⟩ : Addr) = ad175 := (by injection e175); obtain ⟨ce175, hce175, hMe175, hcc175⟩ := Kd.S_get HO_14.out z61 t157 p175 (by first | exact q175 | exact of_decide_eq_true (by first | (with_reducible assumption) | assumption) | (have e_ := (Kd.S_reads' HO_14.out).1; omega)); obtain ⟨ve175_5, rfl, ge175_5⟩ := k61_openM hMe175; have hv175_5 := hcc175 5 _ rfl; rw [add_field _ _ 5 (by omega)] at hv175_5; replace hv175_5 := Option.some.inj (hv175_5.symm.trans hx175_5); rw [hv175_5] at ge175_5; have HL175_5 := Aside0.mk (show Kd.R (Kd.int .i64) 3 _ _ _ _ ((rd_T61 y174 t157).f5) from ge175_5); clear hv175_5 ge175_5; have HX175_5 := Aside0.mk hx175_5; clear hcc175 hce175; (first | simp only [add_plain] at hx175_0 | simp only [add_at] at hx175_0 | simp only [Addr.add, Nat.zero_add] at hx175_0 | skip); (first | simp only [add_plain] at hx175_1 | simp only [add_at] at hx175_1 | simp only [Addr.add, Nat.zero_add] at hx175_1 | skip); (first | simp only [add_plain] at hx175_2 | simp only [add_at] at hx175_2 | simp only [Addr.add, Nat.zero_add] at hx175_2 | skip); (first | simp only [add_plain] at hx175_3 | simp only [add_at] at hx175_3 | simp only [Addr.add, Nat.zero_add] at hx175_3 | skip); (first | simp only [add_plain] at hx175_4 | simp only [add_at] at hx175_4 | simp only [Addr.add, Nat.zero_add] at hx175_4 | skip); (first | simp only [add_plain] at hx175_5 | simp only [add_at] at hx175_5 | simp only [Addr.add, Nat.zero_add] at hx175_5 | skip); have HR175_5 := Aside0.mk hi175_5; have HC175_5 := Aside0.mk hl175_5; clear hi175_5 hl175_5; replace p175 := eq_true p175; replace q175 := eq_true q175; have p39 : 0 ≤ (t157 : Int) := of_decide_eq_true (by first | (with_reducible assumption) | assumption); have q39 : (t157 : Int) < ((t154.length : Int) : Int) := of_decide_eq_true (by first | (with_reducible assumption) | assumption); obtain ⟨_, ce39, hcl39, hM39, hcc39, hfr39, _, _⟩ := Kd.S_elem HO_14.out z61 (t157 : Int) p39 q39; obtain ⟨ve39_5, rfl, ge39_5⟩ := k61_openM hM39; have hx39_0 : w54.cell? ⟨go43, (t157 : Int).toNat * 6, none⟩ = some (.int .i64 ((rd_T61 y174 t157).f0)) := hcc39 0 _ rfl; have hx39_1 : w54.cell? ⟨go43, (t157 : Int).toNat * 6 + 1, none⟩ = some (.int .i64 ((rd_T61 y174 t157).f1)) := hcc39 1 _ rfl; have hx39_2 : w54.cell? ⟨go43, (t157 : Int).toNat * 6 + 2, none⟩ = some (.int .i64 ((rd_T61 y174 t157).f2)) := hcc39 2 _ rfl; have hx39_3 : w54.cell? ⟨go43, (t157 : Int).toNat * 6 + 3, none⟩ = some (.int .i64 ((rd_T61 y174 t157).f3)) := hcc39 3 _ rfl; have hx39_4 : w54.cell? ⟨go43, (t157 : Int).toNat * 6 + 4, none⟩ = some (.int .i64 ((rd_T61 y174 t157).f4)) := hcc39 4 _ rfl; have hx39_5 : w54.cell? ⟨go43, (t157 : Int).toNat * 6 + 5, none⟩ = some (ve39_5) := hcc39 5 _ rfl; have hf39_0 : w54.frozen? ⟨go43, (t157 : Int).toNat * 6, none⟩ = false := hfr39 0; have hf39_1 : w54.frozen? ⟨go43, (t157 : Int).toNat * 6 + 1, none⟩ = false := hfr39 1; have hf39_2 : w54.frozen? ⟨go43, (t157 : Int).toNat * 6 + 2, none⟩ = false := hfr39 2; have hf39_3 : w54.frozen? ⟨go43, (t157 : Int).toNat * 6 + 3, none⟩ = false := hfr39 3; have hf39_4 : w54.frozen? ⟨go43, (t157 : Int).toNat * 6 + 4, none⟩ = false := hfr39 4; have hf39_5 : w54.frozen? ⟨go43, (t157 : Int).toNat * 6 + 5, none⟩ = false := hfr39 5; clear hcl39 hcc39 hfr39 hM39; replace p39 := eq_true p39; replace q39 := eq_true q39; have HX55 := Aside0.mk (show Kd.S k61 61 w54 w.heap.size (fun k_ => ((fun _ => True)) k_ ∧ ¬ ((fun _ => False)) k_) (.slice (some ⟨go43, 0, none⟩) t154.length co42) y174 from (by (with_reducible repeat (first | apply Kd.S_alloc | apply Kd.S_drewN | apply Kd.S_drew)); exact Kd.S_mono HO_14.out (fun k_ hk => ⟨trivial, fun e_ => e_⟩))); obtain ⟨oki55, ce55, hcl55, hM55, hcc55, hfr55, hoki55, hH55⟩ := Kd.S_elem HX55.out z61 (t157 : Int) (of_decide_eq_true (by first | (with_reducible assumption) | assumption)) (by have h_ : (t157 : Int) < ((t154.length : Int) : Int) := of_decide_eq_true (by first | (with_reducible assumption) | assumption); first | exact h_ | (have e_ := (Kd.S_reads' HO_14.out).1; omega) | simpa using h_); obtain ⟨ve55_5, rfl, ge55_5⟩ := k61_openM hM55; have HP55 := Kd.S_seg hH55 (of_decide_eq_true (by first | (with_reducible assumption) | assumption)) (by have h_ : (t157 : Int) < ((t154.length : Int) : Int) := of_decide_eq_true (by first | (with_reducible assumption) | assumption); first | exact h_ | (have e_ := (Kd.S_reads' HO_14.out).1; omega) | simpa using h_) (seg := [.int .i64 (wrap64 (((rd_T61 y174 t157).f3) + a4))]) (j := 3) (show 4 ≤ 6 from by decide) (x' := (⟨(rd_T61 y174 t157).f0, (rd_T61 y174 t157).f1, (rd_T61 y174 t157).f2, wrap64 (((rd_T61 y174 t157).f3) + a4), (rd_T61 y174 t157).f4, (rd_T61 y174 t157).f5⟩ : S61)) (k61_mkM _ _ _ (⟨(rd_T61 y174 t157).f0, (rd_T61 y174 t157).f1, (rd_T61 y174 t157).f2, wrap64 (((rd_T61 y174 t157).f3) + a4), (rd_T61 y174 t157).f4, (rd_T61 y174 t157).f5⟩ : S61) (Kd.R_mono ge55_5 (fun _ h_ => Or.inl h_))) (fun _ hk => hk) (fun k_ hk_ => hk_.elim); have hx55_3 := hcc55 3 _ rfl; (try simp only [show (k61).sz = 6 from rfl, Nat.mul_one, Nat.add_zero] at hx55_3); have hf55_3 := hfr55 3; (try simp only [show (k61).sz = 6 from rfl, Nat.mul_one, Nat.add_zero] at hf55_3); clear hcl55 hcc55 hfr55 hM55 hoki55 hH55) | ((with_reducible refine gate_store (t := 3) (p := 101) rfl ?_); refine store_event (t := 3) (p := 101) (v := ?vo_w56) (w1 := (w54.setCell ⟨go43, (t157 : Int).toNat * 6 + 3, none⟩ (.int .i64 (wrap64 (((rd_T61 y174 t157).f3) + a4))))) ?hg ?ho ?hn ?hr ?_; (case ho => rfl); (case hg => rfl); (case hn => rfl); (case hr => first | (go_simp; done) | (go_simp; rfl)); intro w56 hw; have hg : w54.grownBy w56 (some go43) := (by rw [hw]; exact HP55.2); have hp_ : Kd.S k61 61 w56 w.heap.size (fun _ => True) (.slice (some ⟨go43, 0, none⟩) t154.length co42) y176 := (by rw [hw, Ny176.out]; exact HP55.1); clear HP55; have n0_ := Aside0.mk (hp_); have n1_ := Aside0.mk (Kd.R_after (v := (.slice (some ⟨go43, 0, none⟩) t154.length co42)) (v1 := (.slice (some ⟨go43, 0, none⟩) t154.length co42)) (ok := (fun _ => True)) (by (with_reducible repeat (first | apply Kd.R_alloc | apply Kd.R_drewN | apply Kd.R_drew)); exact HL173_5.out) hg (.inl rfl)); have n2_ := Aside0.mk (Kd.R_after (v := (.slice (some ⟨go43, 0, none⟩) t154.length co42)) (v1 := (.slice (some ⟨go43, 0, none⟩) t154.length co42)) (ok := (fun _ => True)) (by (with_reducible repeat (first | apply Kd.R_alloc | apply Kd.R_drewN | apply Kd.R_drew)); exact HL175_5.out) hg (.inl rfl)); have n3_ := Aside0.mk ((by rw [hw]; exact below_set (HB.out) GB43.out : Below w.heap.size w w56)); clear HO_14; clear HL173_5; clear HL175_5; clear HB; have HO_14 := n0_; have HL173_5 := n1_; have HL175_5 := n2_; have HB := n3_; clear n0_ n1_ n2_ n3_; clear hg hw hp_; have p177 : 0 ≤ (t158 : Int) := of_decide_eq_true (by first | (with_reducible assumption) | assumption); have q177 : t158 < (y176.length : Int) := (by have h_ : (t158 : Int) < ((t154.length : Int) : Int) := of_decide_eq_true (by first | (with_reducible assumption) | assumption); first | (have e_ := (Kd.S_reads' HO_14.out).1; omega) | simpa only [Ny167.out, Ny172.out, Ny174.out, Ny176.out, List.length_set] using h_); have ql177 : ((t158 : Int) < ((t154.length : Int) : Int)) = True := eq_true (of_decide_eq_true (by first | (with_reducible assumption) | assumption)); obtain ⟨ad177, A177_5, c177_5, e177, hx177_0, hx177_1, hx177_2, hx177_3, hx177_4, hx177_5, hl177_5, hi177_5⟩ := at_T61 (Kd.S_reads' HO_14.out).2.2 t158 p177 q177; obtain rfl : (⟨go43, 0, none⟩ : Addr) = ad177 := (by injection e177); obtain ⟨ce177, hce177, hMe177, hcc177⟩ := Kd.S_get HO_14.out z61 t158 p177 (by first | exact q177 | exact of_decide_eq_true (by first | (with_reducible assumption) | assumption) | (have e_ := (Kd.S_reads' HO_14.out).1; omega)); obtain ⟨ve177_5, rfl, ge177_5⟩ := k61_openM hMe177; have hv177_5 := hcc177 5 _ rfl; rw [add_field _ _ 5 (by omega)] at hv177_5; replace hv177_5 := Option.some.inj (hv177_5.symm.trans hx177_5); rw [hv177_5] at ge177_5; have HL177_5 := Aside0.mk (show Kd.R (Kd.int .i64) 3 _ _ _ _ ((rd_T61 y176 t158).f5) from ge177_5); clear hv177_5 ge177_5; have HX177_5 := Aside0.mk hx177_5; clear hcc177 hce177; (first | simp only [add_plain] at hx177_0 | simp only [add_at] at hx177_0 | simp only [Addr.add, Nat.zero_add] at hx177_0 | skip); (first | simp only [add_plain] at hx177_1 | simp only [add_at] at hx177_1 | simp only [Addr.add, Nat.zero_add] at hx177_1 | skip); (first | simp only [add_plain] at hx177_2 | simp only [add_at] at hx177_2 | simp only [Addr.add, Nat.zero_add] at hx177_2 | skip); (first | simp only [add_plain] at hx177_3 | simp only [add_at] at hx177_3 | simp only [Addr.add, Nat.zero_add] at hx177_3 | skip); (first | simp only [add_plain] at hx177_4 | simp only [add_at] at hx177_4 | simp only [Addr.add, Nat.zero_add] at hx177_4 | skip); (first | simp only [add_plain] at hx177_5 | simp only [add_at] at hx177_5 | simp only [Addr.add, Nat.zero_add] at hx177_5 | skip); have HR177_5 := Aside0.mk hi177_5; have HC177_5 := Aside0.mk hl177_5; clear hi177_5 hl177_5; replace p177 := eq_true p177; replace q177 := eq_true q177; have p40 : 0 ≤ (t158 : Int) := of_decide_eq_true (by first | (with_reducible assumption) | assumption); have q40 : (t158 : Int) < ((t154.length : Int) : Int) := of_decide_eq_true (by first | (with_reducible assumption) | assumption); obtain ⟨_, ce40, hcl40, hM40, hcc40, hfr40, _, _⟩ := Kd.S_elem HO_14.out z61 (t158 : Int) p40 q40; obtain ⟨ve40_5, rfl, ge40_5⟩ := k61_openM hM40; have hx40_0 : w56.cell? ⟨go43, (t158 : Int).toNat * 6, none⟩ = some (.int .i64 ((rd_T61 y176 t158).f0)) := hcc40 0 _ rfl; have hx40_1 : w56.cell? ⟨go43, (t158 : Int).toNat * 6 + 1, none⟩ = some (.int .i64 ((rd_T61 y176 t158).f1)) := hcc40 1 _ rfl; have hx40_2 : w56.cell? ⟨go43, (t158 : Int).toNat * 6 + 2, none⟩ = some (.int .i64 ((rd_T61 y176 t158).f2)) := hcc40 2 _ rfl; have hx40_3 : w56.cell? ⟨go43, (t158 : Int).toNat * 6 + 3, none⟩ = some (.int .i64 ((rd_T61 y176 t158).f3)) := hcc40 3 _ rfl; have hx40_4 : w56.cell? ⟨go43, (t158 : Int).toNat * 6 + 4, none⟩ = some (.int .i64 ((rd_T61 y176 t158).f4)) := hcc40 4 _ rfl; have hx40_5 : w56.cell? ⟨go43, (t158 : Int).toNat * 6 + 5, none⟩ = some (ve40_5) := hcc40 5 _ rfl; have hf40_0 : w56.frozen? ⟨go43, (t158 : Int).toNat * 6, none⟩ = false := hfr40 0; have hf40_1 : w56.frozen? ⟨go43, (t158 : Int).toNat * 6 + 1, none⟩ = false := hfr40 1; have hf40_2 : w56.frozen? ⟨go43, (t158 : Int).toNat * 6 + 2, none⟩ = false := hfr40 2; have hf40_3 : w56.frozen? ⟨go43, (t158 : Int).toNat * 6 + 3, none⟩ = false := hfr40 3; have hf40_4 : w56.frozen? ⟨go43, (t158 : Int).toNat * 6 + 4, none⟩ = false := hfr40 4; have hf40_5 : w56.frozen? ⟨go43, (t158 : Int).toNat * 6 + 5, none⟩ = false := hfr40 5; clear hcl40 hcc40 hfr40 hM40; replace p40 := eq_true p40; replace q40 := eq_true q40; have HX57 := Aside0.mk (show Kd.S k61 61 w56 w.heap.size (fun k_ => ((fun _ => True)) k_ ∧ ¬ ((fun _ => False)) k_) (.slice (some ⟨go43, 0, none⟩) t154.length co42) y176 from (by (with_reducible repeat (first | apply Kd.S_alloc | apply Kd.S_drewN | apply Kd.S_drew)); exact Kd.S_mono HO_14.out (fun k_ hk => ⟨trivial, fun e_ => e_⟩))); obtain ⟨oki57, ce57, hcl57, hM57, hcc57, hfr57, hoki57, hH57⟩ := Kd.S_elem HX57.out z61 (t158 : Int) (of_decide_eq_true (by first | (with_reducible assumption) | assumption)) (by have h_ : (t158 : Int) < ((t154.length : Int) : Int) := of_decide_eq_true (by first | (with_reducible assumption) | assumption); first | exact h_ | (have e_ := (Kd.S_reads' HO_14.out).1; omega) | simpa using h_); obtain ⟨ve57_5, rfl, ge57_5⟩ := k61_openM hM57; have HP57 := Kd.S_seg hH57 (of_decide_eq_true (by first | (with_reducible assumption) | assumption)) (by have h_ : (t158 : Int) < ((t154.length : Int) : Int) := of_decide_eq_true (by first | (with_reducible assumption) | assumption); first | exact h_ | (have e_ := (Kd.S_reads' HO_14.out).1; omega) | simpa using h_) (seg := [.int .i64 (wrap64 (((rd_T61 y176 t158).f3) + a5))]) (j := 3) (show 4 ≤ 6 from by decide) (x' := (⟨(rd_T61 y176 t158).f0, (rd_T61 y176 t158).f1, (rd_T61 y176 t158).f2, wrap64 (((rd_T61 y176 t158).f3) + a5), (rd_T61 y176 t158).f4, (rd_T61 y176 t158).f5⟩ : S61)) (k61_mkM _ _ _ (⟨(rd_T61 y176 t158).f0, (rd_T61 y176 t158).f1, (rd_T61 y176 t158).f2, wrap64 (((rd_T61 y176 t158).f3) + a5), (rd_T61 y176 t158).f4, (rd_T61 y176 t158).f5⟩ : S61) (Kd.R_mono ge57_5 (fun _ h_ => Or.inl h_))) (fun _ hk => hk) (fun k_ hk_ => hk_.elim); have hx57_3 := hcc57 3 _ rfl; (try simp only [show (k61).sz = 6 from rfl, Nat.mul_one, Nat.add_zero] at hx57_3); have hf57_3 := hfr57 3; (try simp only [show (k61).sz = 6 from rfl, Nat.mul_one, Nat.add_zero] at hf57_3); clear hcl57 hcc57 hfr57 hM57 hoki57 hH57) | ((with_reducible refine gate_store (t := 3) (p := 112) rfl ?_); refine store_event (t := 3) (p := 112) (v := ?vo_w58) (w1 := (w56.setCell ⟨go43, (t158 : Int).toNat * 6 + 3, none⟩ (.int .i64 (wrap64 (((rd_T61 y176 t158).f3) + a5))))) ?hg ?ho ?hn ?hr ?_; (case ho => rfl); (case hg => rfl); (case hn => rfl); (case hr => first | (go_simp; done) | (go_simp; rfl)); intro w58 hw; have hg : w56.grownBy w58 (some go43) := (by rw [hw]; exact HP57.2); have hp_ : Kd.S k61 61 w58 w.heap.size (fun _ => True) (.slice (some ⟨go43, 0, none⟩) t154.length co42) y178 := (by rw [hw, Ny178.out]; exact HP57.1); clear HP57; have n0_ := Aside0.mk (hp_); have n1_ := Aside0.mk (Kd.R_after (v := (.slice (some ⟨go43, 0, none⟩) t154.length co42)) (v1 := (.slice (some ⟨go43, 0, none⟩) t154.length co42)) (ok := (fun _ => True)) (by (with_reducible repeat (first | apply Kd.R_alloc | apply Kd.R_drewN | apply Kd.R_drew)); exact HL173_5.out) hg (.inl rfl)); have n2_ := Aside0.mk (Kd.R_after (v := (.slice (some ⟨go43, 0, none⟩) t154.length co42)) (v1 := (.slice (some ⟨go43, 0, none⟩) t154.length co42)) (ok := (fun _ => True)) (by (with_reducible repeat (first | apply Kd.R_alloc | apply Kd.R_drewN | apply Kd.R_drew)); exact HL175_5.out) hg (.inl rfl)); have n3_ := Aside0.mk (Kd.R_after (v := (.slice (some ⟨go43, 0, none⟩) t154.length co42)) (v1 := (.slice (some ⟨go43, 0, none⟩) t154.length co42)) (ok := (fun _ => True)) (by (with_reducible repeat (first | apply Kd.R_alloc | apply Kd.R_drewN | apply Kd.R_drew)); exact HL177_5.out) hg (.inl rfl)); have n4_ := Aside0.mk ((by rw [hw]; exact below_set (HB.out) GB43.out : Below w.heap.size w w58)); clear HO_14; clear HL173_5; clear HL175_5; clear HL177_5; clear HB; have HO_14 := n0_; have HL173_5 := n1_; have HL175_5 := n2_; have HL177_5 := n3_; have HB := n4_; clear n0_ n1_ n2_ n3_ n4_; clear hg hw hp_))
          (try simp only [Act.put, List.setIfInBounds_toArray, List.set_cons_zero, List.set_cons_succ])
          go_cut [] (fun wc => ∃ (kq : Nat) (x14_40 : List (S61)), Aside0 (spec_AddResult.j1 kq l0 x14_40 = some (r1, r2)) ∧ Aside0 (kq ≤ kj9) ∧ Aside0 (Kd.S k61 61 wc w.heap.size (fun _ => True) (.slice (some ⟨go43, 0, none⟩) t154.length co42) x14_40) ∧ Aside0 (Below w.heap.size w wc))
          case first =>
           have H := HC41.out
           clear HC41
           by_cases c59 : a3 = 1
           ·
            rw [if_pos c59] at H
            have c59b0 : (a3 == 1) = true := beq_iff_eq.mpr c59
            have c59b1 : (a3 != 1) = false := bne_eq_false_iff_eq.mpr c59
            clear c59
            (first | rw [c59b0] | (simp only [i64_w, i32_w]; rw [c59b0]) | skip)
            obtain ⟨y180, hy180⟩ : ∃ y_ : List (S61), y_ = (y178.set (t157 : Int).toNat (⟨(rd_T61 y178 t157).f0, (rd_T61 y178 t157).f1, wrap64 (((rd_T61 y178 t157).f2) + 1), (rd_T61 y178 t157).f3, (rd_T61 y178 t157).f4, (rd_T61 y178 t157).f5⟩ : S61)) := ⟨_, rfl⟩
            replace H : (spec_AddResult.j1 kj9 l0 y180) = some (r1, r2) := by first | (rw [hy180]; with_reducible exact H) | (have H2_ := (Option.bind_some _ _).symm.trans H; rw [hy180]; with_reducible exact H2_) | (have H2_ := (Option.bind_some _ _).symm.trans H; with_reducible exact H2_) | with_reducible exact H | (rw [hy180]; exact H) | exact H
            have Ny180 := Aside0.mk hy180
            clear hy180
            have H' := Aside0.mk H
            clear H
            have p179 : 0 ≤ (t157 : Int) := of_decide_eq_true (by first | (with_reducible assumption) | assumption)
            have q179 : t157 < (y178.length : Int) := (by have h_ : (t157 : Int) < ((t154.length : Int) : Int) := of_decide_eq_true (by first | (with_reducible assumption) | assumption); first | (have e_ := (Kd.S_reads' HO_14.out).1; omega) | simpa only [Ny167.out, Ny172.out, Ny174.out, Ny176.out, Ny178.out, List.length_set] using h_)
            have ql179 : ((t157 : Int) < ((t154.length : Int) : Int)) = True := eq_true (of_decide_eq_true (by first | (with_reducible assumption) | assumption))
            obtain ⟨ad179, A179_5, c179_5, e179, hx179_0, hx179_1, hx179_2, hx179_3, hx179_4, hx179_5, hl179_5, hi179_5⟩ := at_T61 (Kd.S_reads' HO_14.out).2.2 t157 p179 q179
            obtain rfl : (⟨go43, 0, none⟩ : Addr) = ad179 := (by injection e179)
            obtain ⟨ce179, hce179, hMe179, hcc179⟩ := Kd.S_get HO_14.out z61 t157 p179 (by first | exact q179 | exact of_decide_eq_true (by first | (with_reducible assumption) | assumption) | (have e_ := (Kd.S_reads' HO_14.out).1; omega))
            obtain ⟨ve179_5, rfl, ge179_5⟩ := k61_openM hMe179
            have hv179_5 := hcc179 5 _ rfl
            rw [add_field _ _ 5 (by omega)] at hv179_5
            replace hv179_5 := Option.some.inj (hv179_5.symm.trans hx179_5)
            rw [hv179_5] at ge179_5
            have HL179_5 := Aside0.mk (show Kd.R (Kd.int .i64) 3 _ _ _ _ ((rd_T61 y178 t157).f5) from ge179_5)
            clear hv179_5 ge179_5
            have HX179_5 := Aside0.mk hx179_5
            clear hcc179 hce179
            (first | simp only [add_plain] at hx179_0 | simp only [add_at] at hx179_0 | simp only [Addr.add, Nat.zero_add] at hx179_0 | skip)
            (first | simp only [add_plain] at hx179_1 | simp only [add_at] at hx179_1 | simp only [Addr.add, Nat.zero_add] at hx179_1 | skip)
            (first | simp only [add_plain] at hx179_2 | simp only [add_at] at hx179_2 | simp only [Addr.add, Nat.zero_add] at hx179_2 | skip)
            (first | simp only [add_plain] at hx179_3 | simp only [add_at] at hx179_3 | simp only [Addr.add, Nat.zero_add] at hx179_3 | skip)
            (first | simp only [add_plain] at hx179_4 | simp only [add_at] at hx179_4 | simp only [Addr.add, Nat.zero_add] at hx179_4 | skip)
            (first | simp only [add_plain] at hx179_5 | simp only [add_at] at hx179_5 | simp only [Addr.add, Nat.zero_add] at hx179_5 | skip)
            have HR179_5 := Aside0.mk hi179_5
            have HC179_5 := Aside0.mk hl179_5
            clear hi179_5 hl179_5
            replace p179 := eq_true p179
            replace q179 := eq_true q179
            have p60 : 0 ≤ (t157 : Int) := of_decide_eq_true (by first | (with_reducible assumption) | assumption)
            have q60 : (t157 : Int) < ((t154.length : Int) : Int) := of_decide_eq_true (by first | (with_reducible assumption) | assumption)
            obtain ⟨_, ce60, hcl60, hM60, hcc60, hfr60, _, _⟩ := Kd.S_elem HO_14.out z61 (t157 : Int) p60 q60
            obtain ⟨ve60_5, rfl, ge60_5⟩ := k61_openM hM60
            have hx60_0 : w58.cell? ⟨go43, (t157 : Int).toNat * 6, none⟩ = some (.int .i64 ((rd_T61 y178 t157).f0)) := hcc60 0 _ rfl
            have hx60_1 : w58.cell? ⟨go43, (t157 : Int).toNat * 6 + 1, none⟩ = some (.int .i64 ((rd_T61 y178 t157).f1)) := hcc60 1 _ rfl
            have hx60_2 : w58.cell? ⟨go43, (t157 : Int).toNat * 6 + 2, none⟩ = some (.int .i64 ((rd_T61 y178 t157).f2)) := hcc60 2 _ rfl
            have hx60_3 : w58.cell? ⟨go43, (t157 : Int).toNat * 6 + 3, none⟩ = some (.int .i64 ((rd_T61 y178 t157).f3)) := hcc60 3 _ rfl
            have hx60_4 : w58.cell? ⟨go43, (t157 : Int).toNat * 6 + 4, none⟩ = some (.int .i64 ((rd_T61 y178 t157).f4)) := hcc60 4 _ rfl
            have hx60_5 : w58.cell? ⟨go43, (t157 : Int).toNat * 6 + 5, none⟩ = some (ve60_5) := hcc60 5 _ rfl
            have hf60_0 : w58.frozen? ⟨go43, (t157 : Int).toNat * 6, none⟩ = false := hfr60 0
            have hf60_1 : w58.frozen? ⟨go43, (t157 : Int).toNat * 6 + 1, none⟩ = false := hfr60 1
            have hf60_2 : w58.frozen? ⟨go43, (t157 : Int).toNat * 6 + 2, none⟩ = false := hfr60 2
            have hf60_3 : w58.frozen? ⟨go43, (t157 : Int).toNat * 6 + 3, none⟩ = false := hfr60 3
            have hf60_4 : w58.frozen? ⟨go43, (t157 : Int).toNat * 6 + 4, none⟩ = false := hfr60 4
            have hf60_5 : w58.frozen? ⟨go43, (t157 : Int).toNat * 6 + 5, none⟩ = false := hfr60 5
            clear hcl60 hcc60 hfr60 hM60
            replace p60 := eq_true p60
            replace q60 := eq_true q60
            have HX61 := Aside0.mk (show Kd.S k61 61 w58 w.heap.size (fun k_ => ((fun _ => True)) k_ ∧ ¬ ((fun _ => False)) k_) (.slice (some ⟨go43, 0, none⟩) t154.length co42) y178 from (by (with_reducible repeat (first | apply Kd.S_alloc | apply Kd.S_drewN | apply Kd.S_drew)); exact Kd.S_mono HO_14.out (fun k_ hk => ⟨trivial, fun e_ => e_⟩)))
            obtain ⟨oki61, ce61, hcl61, hM61, hcc61, hfr61, hoki61, hH61⟩ := Kd.S_elem HX61.out z61 (t157 : Int) (of_decide_eq_true (by first | (with_reducible assumption) | assumption)) (by have h_ : (t157 : Int) < ((t154.length : Int) : Int) := of_decide_eq_true (by first | (with_reducible assumption) | assumption); first | exact h_ | (have e_ := (Kd.S_reads' HO_14.out).1; omega) | simpa using h_)
            obtain ⟨ve61_5, rfl, ge61_5⟩ := k61_openM hM61
            have HP61 := Kd.S_seg hH61 (of_decide_eq_true (by first | (with_reducible assumption) | assumption)) (by have h_ : (t157 : Int) < ((t154.length : Int) : Int) := of_decide_eq_true (by first | (with_reducible assumption) | assumption); first | exact h_ | (have e_ := (Kd.S_reads' HO_14.out).1; omega) | simpa using h_) (seg := [.int .i64 (wrap64 (((rd_T61 y178 t157).f2) + 1))]) (j := 2) (show 3 ≤ 6 from by decide) (x' := (⟨(rd_T61 y178 t157).f0, (rd_T61 y178 t157).f1, wrap64 (((rd_T61 y178 t157).f2) + 1), (rd_T61 y178 t157).f3, (rd_T61 y178 t157).f4, (rd_T61 y178 t157).f5⟩ : S61)) (k61_mkM _ _ _ (⟨(rd_T61 y178 t157).f0, (rd_T61 y178 t157).f1, wrap64 (((rd_T61 y178 t157).f2) + 1), (rd_T61 y178 t157).f3, (rd_T61 y178 t157).f4, (rd_T61 y178 t157).f5⟩ : S61) (Kd.R_mono ge61_5 (fun _ h_ => Or.inl h_))) (fun _ hk => hk) (fun k_ hk_ => hk_.elim)
            have hx61_2 := hcc61 2 _ rfl
            (try simp only [show (k61).sz = 6 from rfl, Nat.mul_one, Nat.add_zero] at hx61_2)
            have hf61_2 := hfr61 2
            (try simp only [show (k61).sz = 6 from rfl, Nat.mul_one, Nat.add_zero] at hf61_2)
            clear hcl61 hcc61 hfr61 hM61 hoki61 hH61
            go_wp2_with (first | ((with_reducible refine gate_store (t := 3) (p := 124) rfl ?_); refine store_event (t := 3) (p := 124) (v := ?vo_w62) (w1 := (w58.setCell ⟨go43, (t157 : Int).toNat * 6 + 2, none⟩ (.int .i64 (wrap64 (((rd_T61 y178 t157).f2) + 1))))) ?hg ?ho ?hn ?hr ?_; (case ho => rfl); (case hg => rfl); (case hn => rfl); (case hr => first | (go_simp; done) | (go_simp; rfl)); intro w62 hw; have hg : w58.grownBy w62 (some go43) := (by rw [hw]; exact HP61.2); have hp_ : Kd.S k61 61 w62 w.heap.size (fun _ => True) (.slice (some ⟨go43, 0, none⟩) t154.length co42) y180 := (by rw [hw, Ny180.out]; exact HP61.1); clear HP61; have n0_ := Aside0.mk (hp_); have n1_ := Aside0.mk (Kd.R_after (v := (.slice (some ⟨go43, 0, none⟩) t154.length co42)) (v1 := (.slice (some ⟨go43, 0, none⟩) t154.length co42)) (ok := (fun _ => True)) (by (with_reducible repeat (first | apply Kd.R_alloc | apply Kd.R_drewN | apply Kd.R_drew)); exact HL173_5.out) hg (.inl rfl)); have n2_ := Aside0.mk (Kd.R_after (v := (.slice (some ⟨go43, 0, none⟩) t154.length co42)) (v1 := (.slice (some ⟨go43, 0, none⟩) t154.length co42)) (ok := (fun _ => True)) (by (with_reducible repeat (first | apply Kd.R_alloc | apply Kd.R_drewN | apply Kd.R_drew)); exact HL175_5.out) hg (.inl rfl)); have n3_ := Aside0.mk (Kd.R_after (v := (.slice (some ⟨go43, 0, none⟩) t154.length co42)) (v1 := (.slice (some ⟨go43, 0, none⟩) t154.length co42)) (ok := (fun _ => True)) (by (with_reducible repeat (first | apply Kd.R_alloc | apply Kd.R_drewN | apply Kd.R_drew)); exact HL177_5.out) hg (.inl rfl)); have n4_ := Aside0.mk (Kd.R_after (v := (.slice (some ⟨go43, 0, none⟩) t154.length co42)) (v1 := (.slice (some ⟨go43, 0, none⟩) t154.length co42)) (ok := (fun _ => True)) (by (with_reducible repeat (first | apply Kd.R_alloc | apply Kd.R_drewN | apply Kd.R_drew)); exact HL179_5.out) hg (.inl rfl)); have n5_ := Aside0.mk ((by rw [hw]; exact below_set (HB.out) GB43.out : Below w.heap.size w w62)); clear HO_14; clear HL173_5; clear HL175_5; clear HL177_5; clear HL179_5; clear HB; have HO_14 := n0_; have HL173_5 := n1_; have HL175_5 := n2_; have HL177_5 := n3_; have HL179_5 := n4_; have HB := n5_; clear n0_ n1_ n2_ n3_ n4_ n5_; clear hg hw hp_))
            go_meet
            case rel => exact ⟨_, (y180), H', ⟨by have := HJ9.out; first | omega | exact Nat.le_refl _⟩, ⟨by (with_reducible repeat (first | apply Kd.S_alloc | apply Kd.S_drewN | apply Kd.S_drew)); exact HO_14.out⟩, ⟨by repeat (first | (with_reducible first | exact HB.out | apply below_alloc | apply pw_below_drewN | apply below_drew1) | exact HB.out)⟩⟩
           ·
            rw [if_neg c59] at H
            have c59b0 : (a3 == 1) = false := beq_eq_false_iff_ne.mpr c59
            have c59b1 : (a3 != 1) = true := bne_iff_ne.mpr c59
            (first | rw [c59b0] | (simp only [i64_w, i32_w]; rw [c59b0]) | skip)
            obtain ⟨y182, hy182⟩ : ∃ y_ : List (S61), y_ = (y178.set (t158 : Int).toNat (⟨(rd_T61 y178 t158).f0, (rd_T61 y178 t158).f1, wrap64 (((rd_T61 y178 t158).f2) + 1), (rd_T61 y178 t158).f3, (rd_T61 y178 t158).f4, (rd_T61 y178 t158).f5⟩ : S61)) := ⟨_, rfl⟩
            replace H : (spec_AddResult.j1 kj9 l0 y182) = some (r1, r2) := by first | (rw [hy182]; with_reducible exact H) | (have H2_ := (Option.bind_some _ _).symm.trans H; rw [hy182]; with_reducible exact H2_) | (have H2_ := (Option.bind_some _ _).symm.trans H; with_reducible exact H2_) | with_reducible exact H | (rw [hy182]; exact H) | exact H
            have Ny182 := Aside0.mk hy182
            clear hy182
            have H' := Aside0.mk H
            clear H
            have p181 : 0 ≤ (t158 : Int) := of_decide_eq_true (by first | (with_reducible assumption) | assumption)
            have q181 : t158 < (y178.length : Int) := (by have h_ : (t158 : Int) < ((t154.length : Int) : Int) := of_decide_eq_true (by first | (with_reducible assumption) | assumption); first | (have e_ := (Kd.S_reads' HO_14.out).1; omega) | simpa only [Ny167.out, Ny172.out, Ny174.out, Ny176.out, Ny178.out, List.length_set] using h_)
            have ql181 : ((t158 : Int) < ((t154.length : Int) : Int)) = True := eq_true (of_decide_eq_true (by first | (with_reducible assumption) | assumption))
            obtain ⟨ad181, A181_5, c181_5, e181, hx181_0, hx181_1, hx181_2, hx181_3, hx181_4, hx181_5, hl181_5, hi181_5⟩ := at_T61 (Kd.S_reads' HO_14.out).2.2 t158 p181 q181
            obtain rfl : (⟨go43, 0, none⟩ : Addr) = ad181 := (by injection e181)
            obtain ⟨ce181, hce181, hMe181, hcc181⟩ := Kd.S_get HO_14.out z61 t158 p181 (by first | exact q181 | exact of_decide_eq_true (by first | (with_reducible assumption) | assumption) | (have e_ := (Kd.S_reads' HO_14.out).1; omega))
            obtain ⟨ve181_5, rfl, ge181_5⟩ := k61_openM hMe181
            have hv181_5 := hcc181 5 _ rfl
            rw [add_field _ _ 5 (by omega)] at hv181_5
            replace hv181_5 := Option.some.inj (hv181_5.symm.trans hx181_5)
            rw [hv181_5] at ge181_5
            have HL181_5 := Aside0.mk (show Kd.R (Kd.int .i64) 3 _ _ _ _ ((rd_T61 y178 t158).f5) from ge181_5)
            clear hv181_5 ge181_5
            have HX181_5 := Aside0.mk hx181_5
            clear hcc181 hce181
            (first | simp only [add_plain] at hx181_0 | simp only [add_at] at hx181_0 | simp only [Addr.add, Nat.zero_add] at hx181_0 | skip)
            (first | simp only [add_plain] at hx181_1 | simp only [add_at] at hx181_1 | simp only [Addr.add, Nat.zero_add] at hx181_1 | skip)
            (first | simp only [add_plain] at hx181_2 | simp only [add_at] at hx181_2 | simp only [Addr.add, Nat.zero_add] at hx181_2 | skip)
            (first | simp only [add_plain] at hx181_3 | simp only [add_at] at hx181_3 | simp only [Addr.add, Nat.zero_add] at hx181_3 | skip)
            (first | simp only [add_plain] at hx181_4 | simp only [add_at] at hx181_4 | simp only [Addr.add, Nat.zero_add] at hx181_4 | skip)
            (first | simp only [add_plain] at hx181_5 | simp only [add_at] at hx181_5 | simp only [Addr.add, Nat.zero_add] at hx181_5 | skip)
            have HR181_5 := Aside0.mk hi181_5
            have HC181_5 := Aside0.mk hl181_5
            clear hi181_5 hl181_5
            replace p181 := eq_true p181
            replace q181 := eq_true q181
            have p63 : 0 ≤ (t158 : Int) := of_decide_eq_true (by first | (with_reducible assumption) | assumption)
            have q63 : (t158 : Int) < ((t154.length : Int) : Int) := of_decide_eq_true (by first | (with_reducible assumption) | assumption)
            obtain ⟨_, ce63, hcl63, hM63, hcc63, hfr63, _, _⟩ := Kd.S_elem HO_14.out z61 (t158 : Int) p63 q63
            obtain ⟨ve63_5, rfl, ge63_5⟩ := k61_openM hM63
            have hx63_0 : w58.cell? ⟨go43, (t158 : Int).toNat * 6, none⟩ = some (.int .i64 ((rd_T61 y178 t158).f0)) := hcc63 0 _ rfl
            have hx63_1 : w58.cell? ⟨go43, (t158 : Int).toNat * 6 + 1, none⟩ = some (.int .i64 ((rd_T61 y178 t158).f1)) := hcc63 1 _ rfl
            have hx63_2 : w58.cell? ⟨go43, (t158 : Int).toNat * 6 + 2, none⟩ = some (.int .i64 ((rd_T61 y178 t158).f2)) := hcc63 2 _ rfl
            have hx63_3 : w58.cell? ⟨go43, (t158 : Int).toNat * 6 + 3, none⟩ = some (.int .i64 ((rd_T61 y178 t158).f3)) := hcc63 3 _ rfl
            have hx63_4 : w58.cell? ⟨go43, (t158 : Int).toNat * 6 + 4, none⟩ = some (.int .i64 ((rd_T61 y178 t158).f4)) := hcc63 4 _ rfl
            have hx63_5 : w58.cell? ⟨go43, (t158 : Int).toNat * 6 + 5, none⟩ = some (ve63_5) := hcc63 5 _ rfl
            have hf63_0 : w58.frozen? ⟨go43, (t158 : Int).toNat * 6, none⟩ = false := hfr63 0
            have hf63_1 : w58.frozen? ⟨go43, (t158 : Int).toNat * 6 + 1, none⟩ = false := hfr63 1
            have hf63_2 : w58.frozen? ⟨go43, (t158 : Int).toNat * 6 + 2, none⟩ = false := hfr63 2
            have hf63_3 : w58.frozen? ⟨go43, (t158 : Int).toNat * 6 + 3, none⟩ = false := hfr63 3
            have hf63_4 : w58.frozen? ⟨go43, (t158 : Int).toNat * 6 + 4, none⟩ = false := hfr63 4
            have hf63_5 : w58.frozen? ⟨go43, (t158 : Int).toNat * 6 + 5, none⟩ = false := hfr63 5
            clear hcl63 hcc63 hfr63 hM63
            replace p63 := eq_true p63
            replace q63 := eq_true q63
            have HX64 := Aside0.mk (show Kd.S k61 61 w58 w.heap.size (fun k_ => ((fun _ => True)) k_ ∧ ¬ ((fun _ => False)) k_) (.slice (some ⟨go43, 0, none⟩) t154.length co42) y178 from (by (with_reducible repeat (first | apply Kd.S_alloc | apply Kd.S_drewN | apply Kd.S_drew)); exact Kd.S_mono HO_14.out (fun k_ hk => ⟨trivial, fun e_ => e_⟩)))
            obtain ⟨oki64, ce64, hcl64, hM64, hcc64, hfr64, hoki64, hH64⟩ := Kd.S_elem HX64.out z61 (t158 : Int) (of_decide_eq_true (by first | (with_reducible assumption) | assumption)) (by have h_ : (t158 : Int) < ((t154.length : Int) : Int) := of_decide_eq_true (by first | (with_reducible assumption) | assumption); first | exact h_ | (have e_ := (Kd.S_reads' HO_14.out).1; omega) | simpa using h_)
            obtain ⟨ve64_5, rfl, ge64_5⟩ := k61_openM hM64
            have HP64 := Kd.S_seg hH64 (of_decide_eq_true (by first | (with_reducible assumption) | assumption)) (by have h_ : (t158 : Int) < ((t154.length : Int) : Int) := of_decide_eq_true (by first | (with_reducible assumption) | assumption); first | exact h_ | (have e_ := (Kd.S_reads' HO_14.out).1; omega) | simpa using h_) (seg := [.int .i64 (wrap64 (((rd_T61 y178 t158).f2) + 1))]) (j := 2) (show 3 ≤ 6 from by decide) (x' := (⟨(rd_T61 y178 t158).f0, (rd_T61 y178 t158).f1, wrap64 (((rd_T61 y178 t158).f2) + 1), (rd_T61 y178 t158).f3, (rd_T61 y178 t158).f4, (rd_T61 y178 t158).f5⟩ : S61)) (k61_mkM _ _ _ (⟨(rd_T61 y178 t158).f0, (rd_T61 y178 t158).f1, wrap64 (((rd_T61 y178 t158).f2) + 1), (rd_T61 y178 t158).f3, (rd_T61 y178 t158).f4, (rd_T61 y178 t158).f5⟩ : S61) (Kd.R_mono ge64_5 (fun _ h_ => Or.inl h_))) (fun _ hk => hk) (fun k_ hk_ => hk_.elim)
            have hx64_2 := hcc64 2 _ rfl
            (try simp only [show (k61).sz = 6 from rfl, Nat.mul_one, Nat.add_zero] at hx64_2)
            have hf64_2 := hfr64 2
            (try simp only [show (k61).sz = 6 from rfl, Nat.mul_one, Nat.add_zero] at hf64_2)
            clear hcl64 hcc64 hfr64 hM64 hoki64 hH64
            go_wp2_with (first | ((with_reducible refine gate_store (t := 3) (p := 134) rfl ?_); refine store_event (t := 3) (p := 134) (v := ?vo_w65) (w1 := (w58.setCell ⟨go43, (t158 : Int).toNat * 6 + 2, none⟩ (.int .i64 (wrap64 (((rd_T61 y178 t158).f2) + 1))))) ?hg ?ho ?hn ?hr ?_; (case ho => rfl); (case hg => rfl); (case hn => rfl); (case hr => first | (go_simp; done) | (go_simp; rfl)); intro w65 hw; have hg : w58.grownBy w65 (some go43) := (by rw [hw]; exact HP64.2); have hp_ : Kd.S k61 61 w65 w.heap.size (fun _ => True) (.slice (some ⟨go43, 0, none⟩) t154.length co42) y182 := (by rw [hw, Ny182.out]; exact HP64.1); clear HP64; have n0_ := Aside0.mk (hp_); have n1_ := Aside0.mk (Kd.R_after (v := (.slice (some ⟨go43, 0, none⟩) t154.length co42)) (v1 := (.slice (some ⟨go43, 0, none⟩) t154.length co42)) (ok := (fun _ => True)) (by (with_reducible repeat (first | apply Kd.R_alloc | apply Kd.R_drewN | apply Kd.R_drew)); exact HL173_5.out) hg (.inl rfl)); have n2_ := Aside0.mk (Kd.R_after (v := (.slice (some ⟨go43, 0, none⟩) t154.length co42)) (v1 := (.slice (some ⟨go43, 0, none⟩) t154.length co42)) (ok := (fun _ => True)) (by (with_reducible repeat (first | apply Kd.R_alloc | apply Kd.R_drewN | apply Kd.R_drew)); exact HL175_5.out) hg (.inl rfl)); have n3_ := Aside0.mk (Kd.R_after (v := (.slice (some ⟨go43, 0, none⟩) t154.length co42)) (v1 := (.slice (some ⟨go43, 0, none⟩) t154.length co42)) (ok := (fun _ => True)) (by (with_reducible repeat (first | apply Kd.R_alloc | apply Kd.R_drewN | apply Kd.R_drew)); exact HL177_5.out) hg (.inl rfl)); have n4_ := Aside0.mk (Kd.R_after (v := (.slice (some ⟨go43, 0, none⟩) t154.length co42)) (v1 := (.slice (some ⟨go43, 0, none⟩) t154.length co42)) (ok := (fun _ => True)) (by (with_reducible repeat (first | apply Kd.R_alloc | apply Kd.R_drewN | apply Kd.R_drew)); exact HL181_5.out) hg (.inl rfl)); have n5_ := Aside0.mk ((by rw [hw]; exact below_set (HB.out) GB43.out : Below w.heap.size w w65)); clear HO_14; clear HL173_5; clear HL175_5; clear HL177_5; clear HL181_5; clear HB; have HO_14 := n0_; have HL173_5 := n1_; have HL175_5 := n2_; have HL177_5 := n3_; have HL181_5 := n4_; have HB := n5_; clear n0_ n1_ n2_ n3_ n4_ n5_; clear hg hw hp_))
            go_meet
            case rel => exact ⟨_, (y182), H', ⟨by have := HJ9.out; first | omega | exact Nat.le_refl _⟩, ⟨by (with_reducible repeat (first | apply Kd.S_alloc | apply Kd.S_drewN | apply Kd.S_drew)); exact HO_14.out⟩, ⟨by repeat (first | (with_reducible first | exact HB.out | apply below_alloc | apply pw_below_drewN | apply below_drew1) | exact HB.out)⟩⟩
          case rest =>
           clear HC41
           try clear c1
           try clear p1
           try clear q1
           try clear hx1
           try clear c2
           try clear p2
           try clear c3
           try clear p3
           try clear q3
           try clear hx3
           try clear c4
           try clear p4
           try clear q4
           try clear hx4
           try clear c5
           try clear hx5
           try clear c6
           try clear p6
           try clear q6
           try clear hx6
           try clear hf6
           try clear c7
           try clear c13
           try clear c14
           try clear c14b0
           try clear c16
           try clear c16b0
           try clear p16
           try clear q16
           try clear hx16
           try clear c17
           try clear p17
           try clear q17
           try clear hx17
           try clear c18
           try clear c18b0
           try clear c18b1
           try clear p18
           try clear q18
           try clear hx18
           try clear c20
           try clear c21
           try clear c23
           try clear c29
           try clear c30
           try clear c30b0
           try clear c31
           try clear c31b0
           try clear c32
           try clear p33
           try clear q33
           try clear c34
           try clear c34b0
           try clear c35
           try clear c35b0
           try clear c36
           try clear p37
           try clear q37
           try clear c38
           try clear p38
           try clear q38
           try clear hx38
           try clear hf38
           try clear c39
           try clear p39
           try clear q39
           try clear hx39
           try clear hf39
           try clear c40
           try clear p40
           try clear q40
           try clear hx40
           try clear hf40
           try clear c42
           try clear c43
           try clear c45
           try clear hx45
           try clear hf45
           try clear c48
           try clear c50
           try clear hx50
           try clear hf50
           try clear c53
           try clear hx53
           try clear hf53
           try clear c55
           try clear hx55
           try clear hf55
           try clear c57
           try clear hx57
           try clear hf57
           try clear c59
           try clear c59b0
           try clear c59b1
           try clear c60
           try clear p60
           try clear q60
           try clear hx60
           try clear hf60
           try clear c61
           try clear hx61
           try clear hf61
           try clear c63
           try clear p63
           try clear q63
           try clear hx63
           try clear hf63
           try clear c64
           try clear p64
           try clear hx64
           try clear hf64
           try clear hx163_0
           try clear hx163_1
           try clear hx163_2
           try clear hx163_3
           try clear hx163_4
           try clear hx163_5
           try clear hx168_0
           try clear hx168_1
           try clear hx168_2
           try clear hx168_3
           try clear hx168_4
           try clear hx168_5
           try clear hx173_0
           try clear hx173_1
           try clear hx173_2
           try clear hx173_3
           try clear hx173_4
           try clear hx173_5
           try clear hx175_0
           try clear hx175_1
           try clear hx175_2
           try clear hx175_3
           try clear hx175_4
           try clear hx175_5
           try clear hx177_0
           try clear hx177_1
           try clear hx177_2
           try clear hx177_3
           try clear hx177_4
           try clear hx177_5
           try clear hx179_0
           try clear hx179_1
           try clear hx179_2
           try clear hx179_3
           try clear hx179_4
           try clear hx179_5
           try clear hx181_0
           try clear hx181_1
           try clear hx181_2
           try clear hx181_3
           try clear hx181_4
           try clear hx181_5
           try clear hx38_0
           try clear hx38_1
           try clear hx38_2
           try clear hx38_3
           try clear hx38_4
           try clear hx38_5
           try clear hx39_0
           try clear hx39_1
           try clear hx39_2
           try clear hx39_3
           try clear hx39_4
           try clear hx39_5
           try clear hx40_0
           try clear hx40_1
           try clear hx40_2
           try clear hx40_3
           try clear hx40_4
           try clear hx40_5
           try clear hx45_0
           try clear hx50_0
           try clear hx53_4
           try clear hx55_3
           try clear hx57_3
           try clear hx60_0
           try clear hx60_1
           try clear hx60_2
           try clear hx60_3
           try clear hx60_4
           try clear hx60_5
           try clear hx61_2
           try clear hx63_0
           try clear hx63_1
           try clear hx63_2
           try clear hx63_3
           try clear hx63_4
           try clear hx63_5
           try clear hx64_2
           try clear p163
           try clear p168
           try clear p173
           try clear p175
           try clear p177
           try clear p179
           try clear p181
           try clear p2
           try clear p33
           try clear p37
           try clear p38
           try clear p39
           try clear p40
           try clear p60
           try clear p63
           try clear q163
           try clear q168
           try clear q173
           try clear q175
           try clear q177
           try clear q179
           try clear q181
           try clear q33
           try clear q37
           try clear q38
           try clear q39
           try clear q40
           try clear q60
           try clear q63
           obtain ⟨kq, x14_40, HA, HJ40, HO_14, HB⟩ := hcut
           have hl14_40 := (Kd.S_reads' HO_14.out).1
           rw [hl14_40] at HO_14
           (try simp only [hl14_40])
           cases kq with
           | zero => exact absurd HA.out (by simp [spec_AddResult.j1])
           | succ kj40 =>
            have H := HA.out
            clear HA
            simp only [spec_AddResult.j1] at H
            replace H := Option.bind_eq_some_iff.mp H
            obtain ⟨t183, A660, H⟩ := H
            replace H : (if t183 = true then (some (x14_40, true)) else ((spec_l19Copy.f kj40 l0).bind fun t184 => (some (t184, false)))) = some (r1, r2) := H
            have A66 := Aside0.mk A660
            clear A660
            by_cases c67 : t183 = true
            ·
             subst c67
             have H1 : (some (x14_40, true)) = some (r1, r2) := by rw [if_pos rfl] at H; exact H
             clear H
             have H := H1
             clear H1
             simp only [Option.some.injEq, Prod.mk.injEq] at H
             obtain ⟨rfl, rfl⟩ := H
             go_wp2_with (first | ((with_reducible refine gate_callee (f := 20) rfl ?_); refine goesL_ (some 136) rfl rfl Try.func20 (by kernel_rfl) rfl #[.slice (some ⟨go43, 0, none⟩) x14_40.length co42] rfl (by (try simp only [List.map_toArray, List.map_cons, List.map_nil]); first | done | rfl | (simp only [List.length_drop, List.length_take]; rfl)) ?_; (with_reducible refine (spec_AreTeams.calls kj40 _ _ x14_40 true _ ?side1 ?side2 A66.out).mono ?_); (case side1 => repeat (first | exact (Kd.S_reads' HO_14.out).2.2 | (with_reducible refine Kd.C_alloc ?_ _) | (with_reducible refine Kd.C_drewN ?_ _) | (with_reducible refine Kd.C_drew ?_))); (case side2 => exact (Kd.S_reads' HO_14.out).2.1); rintro e w68 ⟨rfl, hb⟩; refine ⟨_, rfl, ?_⟩; have n0_ := Aside0.mk (Kd.S_below (by (with_reducible repeat (first | apply Kd.S_alloc | apply Kd.S_drewN | apply Kd.S_drew)); exact HO_14.out) hb); have n1_ := Aside0.mk (below_step (by repeat (first | (with_reducible first | exact HB.out | apply below_alloc | apply pw_below_drewN | apply below_drew1) | exact HB.out)) hb); clear HO_14; clear HB; have HO_14 := n0_; have HB := n1_; clear n0_ n1_; (try clear hb); (try clear hb2); (try clear hk); (try clear hi)))
             go_ret2
             exact ⟨_, by first | rfl | (simp [errW_none, errW_some] <;> rfl) | (simp [*, errW_none, errW_some] <;> rfl), by (with_reducible repeat (first | apply Kd.S_alloc | apply Kd.S_drewN | apply Kd.S_drew)); exact HO_14.out, by repeat (first | (with_reducible first | exact HB.out | apply below_alloc | apply pw_below_drewN | apply below_drew1) | exact HB.out)⟩
            ·
             replace c67 := Bool.eq_false_iff.mpr c67
             subst c67
             have H1 : ((spec_l19Copy.f kj40 l0).bind fun t184 => (some (t184, false))) = some (r1, r2) := by rw [if_neg (show ¬ (false = true) by decide)] at H; exact H
             clear H
             have H := H1
             clear H1
             replace H := Option.bind_eq_some_iff.mp H
             obtain ⟨t184, A690, H⟩ := H
             replace H : (some (t184, false)) = some (r1, r2) := H
             have A69 := Aside0.mk A690
             clear A690
             simp only [Option.some.injEq, Prod.mk.injEq] at H
             obtain ⟨rfl, rfl⟩ := H
             go_wp2_with (first | ((with_reducible refine gate_callee (f := 20) rfl ?_); refine goesL_ (some 136) rfl rfl Try.func20 (by kernel_rfl) rfl #[.slice (some ⟨go43, 0, none⟩) x14_40.length co42] rfl (by (try simp only [List.map_toArray, List.map_cons, List.map_nil]); first | done | rfl | (simp only [List.length_drop, List.length_take]; rfl)) ?_; (with_reducible refine (spec_AreTeams.calls kj40 _ _ x14_40 false _ ?side1 ?side2 A66.out).mono ?_); (case side1 => repeat (first | exact (Kd.S_reads' HO_14.out).2.2 | (with_reducible refine Kd.C_alloc ?_ _) | (with_reducible refine Kd.C_drewN ?_ _) | (with_reducible refine Kd.C_drew ?_))); (case side2 => exact (Kd.S_reads' HO_14.out).2.1); rintro e w70 ⟨rfl, hb⟩; refine ⟨_, rfl, ?_⟩; have n0_ := Aside0.mk (Kd.S_below (by (with_reducible repeat (first | apply Kd.S_alloc | apply Kd.S_drewN | apply Kd.S_drew)); exact HO_14.out) hb); have n1_ := Aside0.mk (below_step (by repeat (first | (with_reducible first | exact HB.out | apply below_alloc | apply pw_below_drewN | apply below_drew1) | exact HB.out)) hb); clear HO_14; clear HB; have HO_14 := n0_; have HB := n1_; clear n0_ n1_; (try clear hb); (try clear hb2); (try clear hk); (try clear hi)) | ((with_reducible refine gate_callee (f := 74) rfl ?_); refine goesL_ (some 139) rfl rfl Try.func74 (by kernel_rfl) rfl #[.slice A0 l0.length c0] rfl (by (try simp only [List.map_toArray, List.map_cons, List.map_nil]); first | done | rfl | (simp only [List.length_drop, List.length_take]; rfl)) ?_; (with_reducible refine (spec_l19Copy.calls kj40 _ _ l0 t184 _ ?side1 ?side2 A69.out).mono ?_); (case side1 => repeat (first | exact (Kd.C_below HR0.out HB.out) | (with_reducible refine Kd.C_alloc ?_ _) | (with_reducible refine Kd.C_drewN ?_ _) | (with_reducible refine Kd.C_drew ?_))); (case side2 => exact HC0.out); rintro e w71 ⟨v185, rfl, ho0, hb⟩; refine ⟨_, rfl, ?_⟩; have n0_ := Aside0.mk (Kd.S_elder' (by (with_reducible repeat (first | apply Kd.S_alloc | apply Kd.S_drewN | apply Kd.S_drew)); exact HO_14.out) (Kd.S_base ho0) hb); have n1_ := Aside0.mk (Kd.S_lower (Kd.S_new' ho0 (Kd.S_lt (by (with_reducible repeat (first | apply Kd.S_alloc | apply Kd.S_drewN | apply Kd.S_drew)); exact HO_14.out))) (below_size (by repeat (first | (with_reducible first | exact HB.out | apply below_alloc | apply pw_below_drewN | apply below_drew1) | exact HB.out)))); have n2_ := Aside0.mk (below_step (by repeat (first | (with_reducible first | exact HB.out | apply below_alloc | apply pw_below_drewN | apply below_drew1) | exact HB.out)) hb); clear HO_14; clear HB; have HO_14 := n0_; have HO186 := n1_; have HB := n2_; clear n0_ n1_ n2_; (try clear hb); (try clear hb2); (try clear hk); (try clear hi); (try clear ho0)))
             go_ret2
             exact ⟨_, by first | rfl | (simp [errW_none, errW_some] <;> rfl) | (simp [*, errW_none, errW_some] <;> rfl), by (with_reducible repeat (first | apply Kd.S_alloc | apply Kd.S_drewN | apply Kd.S_drew)); exact Kd.S_mono HO186.out (fun _ hk => trivial), by repeat (first | (with_reducible first | exact HB.out | apply below_alloc | apply pw_below_drewN | apply below_drew1) | exact HB.out)⟩
         ·
          rw [if_neg c36] at H
          exact absurd H (by simp)
        ·
         rw [if_neg c35] at H
         exact absurd H (by simp)
       ·
        rw [if_neg c34] at H
        exact absurd H (by simp)
      ·
       rw [if_neg c32] at H
       exact absurd H (by simp)
     ·
      rw [if_neg c31] at H
      exact absurd H (by simp)
    ·
     rw [if_neg c30] at H
     exact absurd H (by simp)
end Go.Proofs.Ytiimiogpiflkdaa.A
end

section
set_option linter.unusedVariables false
set_option linter.unusedSimpArgs false
namespace Go.Proofs.Ytiimiogpiflkdaa.M
open Go Go.RowKit Go.Proofs.YtiimiogpiflkdaaW.PrintWords
structure MI (P : Nat → Prop) (w w' : World) : Prop where
  os : w'.os = w.os
  tape : w'.tape = w.tape
  output : w'.output = w.output
  size : w.heap.size ≤ w'.heap.size
  keep : ∀ k, k < w.heap.size → ¬ P k → w'.heap[k]? = w.heap[k]?
  int : ∀ p x, w.cell? p = some (.int .i64 x) → ∃ x', w'.cell? p = some (.int .i64 x')
  oth : ∀ p v, w.cell? p = some v → (∀ x, v ≠ .int .i64 x) → w'.cell? p = some v
  froz : ∀ p, p.block < w.heap.size → w'.frozen? p = w.frozen? p
theorem MI.refl (P : Nat → Prop) (w : World) : MI P w w := ⟨rfl, rfl, rfl, Nat.le_refl _, fun _ _ _ => rfl, fun _ x h => ⟨x, h⟩, fun _ _ h _ => h, fun _ _ => rfl⟩
theorem MI.trans {P : Nat → Prop} {a b c : World} (h : MI P a b) (k : MI P b c) : MI P a c where
  os := k.os.trans h.os
  tape := k.tape.trans h.tape
  output := k.output.trans h.output
  size := Nat.le_trans h.size k.size
  keep := fun i hi hn => (k.keep i (Nat.lt_of_lt_of_le hi h.size) hn).trans (h.keep i hi hn)
  int := fun p x hx => by
    obtain ⟨y, hy⟩ := h.int p x hx
    exact k.int p y hy
  oth := fun p v hv hn => k.oth p v (h.oth p v hv hn) hn
  froz := fun p hp => (k.froz p (Nat.lt_of_lt_of_le hp h.size)).trans (h.froz p hp)
theorem MI.drewN {P : Nat → Prop} {a b : World} (h : MI P a b) (n : Nat) : MI P a (b.drewN n) := ⟨h.os, h.tape, h.output, h.size, h.keep, h.int, h.oth, h.froz⟩
theorem MI.drew {P : Nat → Prop} {a b : World} (h : MI P a b) : MI P a b.drew := ⟨h.os, h.tape, h.output, h.size, h.keep, h.int, h.oth, h.froz⟩
theorem heap_set_ne {w : World} {g o k : Nat} {u : Value} (h : k ≠ g) : (w.setCell ⟨g, o, none⟩ u).heap[k]? = w.heap[k]? := by
  simp [World.setCell, Array.getElem?_modify, Ne.symm h]
theorem heap_set_size (w : World) (p : Addr) (u : Value) : (w.setCell p u).heap.size = w.heap.size := by simp [World.setCell]
theorem cell_set_ne {w : World} {g o : Nat} {q : Addr} {u : Value} (h : q.block = g → q.off ≠ o) : (w.setCell ⟨g, o, none⟩ u).cell? q = w.cell? q := by
  unfold World.cell? World.setCell
  simp only [Array.getElem?_modify]
  by_cases e : g = q.block
  · subst e
    simp only [if_true]
    cases w.heap[q.block]? with
    | none => rfl
    | some ob =>
      cases ob with
      | cells c t f =>
        simp only [Option.map_some]
        simp [Array.getElem?_setIfInBounds_ne (h rfl).symm]
      | _ => rfl
  · simp [e]
theorem frozen_set {w : World} {p q : Addr} {u : Value} : (w.setCell p u).frozen? q = w.frozen? q := by
  unfold World.frozen? World.setCell
  simp only [Array.getElem?_modify]
  by_cases e : p.block = q.block
  · simp only [e, if_true]
    cases w.heap[q.block]? with
    | none => rfl
    | some ob => cases ob <;> rfl
  · simp [e]
theorem cell_set_same {w : World} {g o : Nat} {v u : Value} (h : w.cell? ⟨g, o, none⟩ = some v) : (w.setCell ⟨g, o, none⟩ u).cell? ⟨g, o, none⟩ = some u := by
  unfold World.cell? World.setCell at *
  simp only [Array.getElem?_modify, if_true]
  cases e : w.heap[g]? with
  | none => simp [e] at h
  | some ob =>
    cases ob with
    | cells c t f =>
      simp [e] at h
      have := (Array.getElem?_eq_some_iff.1 h).1
      simp [this]
    | _ => simp [e] at h
theorem cell_spot {w : World} {p : Addr} {v : Value} (h : w.cell? p = some v) : p.spot = none := by
  unfold World.cell? at h
  split at h
  · split at h
    · cases h
    · rename_i hs
      simpa using hs
  · cases h
theorem MI.set {P : Nat → Prop} {a b : World} (h : MI P a b) {g o : Nat} {x : Int} (hg : P g) (hc : b.cell? ⟨g, o, none⟩ = some (.int .i64 x)) (y : Int) : MI P a (b.setCell ⟨g, o, none⟩ (.int .i64 y)) := by
  refine h.trans ⟨rfl, rfl, rfl, Nat.le_of_eq (heap_set_size _ _ _).symm, fun k _ hn => heap_set_ne (fun e => hn (e ▸ hg)), fun p x' hx => ?_, fun p v hv hn => ?_, fun p _ => frozen_set⟩
  · by_cases e : p.block = g ∧ p.off = o
    · have hs := cell_spot hx
      obtain ⟨pb, po, ps⟩ := p
      obtain ⟨rfl, rfl⟩ := e
      cases hs
      exact ⟨y, cell_set_same hx⟩
    · exact ⟨x', by rw [cell_set_ne (fun h1 h2 => e ⟨h1, h2⟩)]; exact hx⟩
  · refine (cell_set_ne (fun h1 h2 => ?_)).trans hv
    have hs := cell_spot hv
    obtain ⟨pb, po, ps⟩ := p
    cases h1
    cases h2
    cases hs
    rw [hv] at hc
    exact hn x (Option.some.inj hc)
theorem MI.kept {P : Nat → Prop} {a b : World} (h : MI P a b) : Kept a b P := ⟨h.size, h.keep⟩
theorem MI.below {P : Nat → Prop} {a b : World} (h : MI P a b) {w0 : World} (hb : Below w0.heap.size w0 a) (hp : ∀ k, P k → w0.heap.size ≤ k) : Below w0.heap.size w0 b :=
  hb.trans ⟨h.os, h.tape, h.output, h.size, fun k hk => h.keep k (Nat.lt_of_lt_of_le hk hb.size) (fun hq => by have := hp k hq; omega)⟩
def RowI (P : Nat → Prop) (w : World) (A : Option Addr) (n : Nat) : Prop := n ≤ 4611686018427387904 ∧ (0 < n → ∃ g, A = some ⟨g, 0, none⟩ ∧ P g ∧ g < w.heap.size ∧ ∀ j, j < n → (∃ x, w.cell? ⟨g, j, none⟩ = some (.int .i64 x)) ∧ w.frozen? ⟨g, j, none⟩ = false)
theorem RowI.mi {P Q : Nat → Prop} {w w' : World} {A : Option Addr} {n : Nat} (h : RowI P w A n) (k : MI Q w w') : RowI P w' A n :=
  ⟨h.1, fun hn => by
    obtain ⟨g, e, hp, hlt, hc⟩ := h.2 hn
    exact ⟨g, e, hp, Nat.lt_of_lt_of_le hlt k.size, fun j hj => by
      obtain ⟨⟨x, hx⟩, hf⟩ := hc j hj
      exact ⟨k.int _ x hx, by rw [k.froz _ hlt]; exact hf⟩⟩⟩
theorem RowI.of_R {P : Nat → Prop} {w : World} {base : Nat} {A : Option Addr} {n c : Nat} {xs : List Int} (h : Kd.R (Kd.int .i64) 3 w base P (.slice A n c) xs) (hl : xs.length ≤ 4611686018427387904) : RowI P w A n := by
  obtain ⟨hn, _, _⟩ := Kd.R_reads' h
  subst hn
  refine ⟨hl, fun hp => ?_⟩
  obtain ⟨g, cap, e, _, hlt, _⟩ := Kd.R_form h hp
  injection e with e1 e2 e3
  subst e1 e3
  refine ⟨g, rfl, h.1 g rfl, hlt, fun j hj => ?_⟩
  obtain ⟨h1, h2⟩ := Kd.R_celln 0 h (j : Int) (by omega) (by omega)
  exact ⟨⟨_, by simpa using h1⟩, by simpa using h2⟩
def RowS (m : Nat) (P : Nat → Prop) (w : World) (A : Option Addr) (ns : List Nat) : Prop :=
  ns.length ≤ 4611686018427387904 ∧ (0 < ns.length → ∃ g, A = some ⟨g, 0, none⟩ ∧ P g ∧ g < w.heap.size ∧ ∀ (i : Nat) (hi : i < ns.length), (∀ j, j < m → (∃ x, w.cell? ⟨g, i * (m + 1) + j, none⟩ = some (.int .i64 x)) ∧ w.frozen? ⟨g, i * (m + 1) + j, none⟩ = false) ∧ ∃ B c, w.cell? ⟨g, i * (m + 1) + m, none⟩ = some (.slice B ns[i] c) ∧ RowI P w B ns[i])
theorem RowS.mi {m : Nat} {P Q : Nat → Prop} {w w' : World} {A : Option Addr} {ns : List Nat} (h : RowS m P w A ns) (k : MI Q w w') : RowS m P w' A ns :=
  ⟨h.1, fun hn => by
    obtain ⟨g, e, hp, hlt, hc⟩ := h.2 hn
    refine ⟨g, e, hp, Nat.lt_of_lt_of_le hlt k.size, fun i hi => ?_⟩
    obtain ⟨h1, B, c, h2, h3⟩ := hc i hi
    refine ⟨fun j hj => ?_, B, c, k.oth _ _ h2 (fun x hx => by cases hx), h3.mi k⟩
    obtain ⟨⟨x, hx⟩, hf⟩ := h1 j hj
    exact ⟨k.int _ x hx, by rw [k.froz _ hlt]; exact hf⟩⟩
theorem RowI.mono {P Q : Nat → Prop} {w : World} {A : Option Addr} {n : Nat} (h : RowI P w A n) (hq : ∀ k, P k → Q k) : RowI Q w A n :=
  ⟨h.1, fun hn => by
    obtain ⟨g, e, hp, r⟩ := h.2 hn
    exact ⟨g, e, hq _ hp, r⟩⟩
theorem RowS.of_R {α : Type} {d : Kd α} (m : Nat) (hsz : d.sz = m + 1) (len : α → Nat) {P : Nat → Prop} {w : World} {e base : Nat} {A : Option Addr} {n c : Nat} {l : List α}
    (hM : ∀ {ok : Nat → Prop} {x : α} {cs : List Value}, d.M w base ok x cs → ∃ (zs : List Int) (v : Value) (xs : List Int), cs = zs.map (Value.int .i64) ++ [v] ∧ zs.length = m ∧ xs.length = len x ∧ Kd.R (Kd.int .i64) 3 w base ok v xs)
    (h : Kd.R d e w base P (.slice A n c) l) (hl : l.length ≤ 4611686018427387904) (hx : ∀ x ∈ l, len x ≤ 4611686018427387904) : RowS m P w A (l.map len) := by
  obtain ⟨hn, _, _⟩ := Kd.R_reads' h
  subst hn
  refine ⟨by simpa using hl, fun hp => ?_⟩
  rw [List.length_map] at hp
  obtain ⟨g, cap, e1, _, hlt, _⟩ := Kd.R_form h hp
  obtain ⟨h0, inner, hown, hreps⟩ := h
  injection e1 with e1 e2 e3
  subst e1 e3
  have hfz : ∀ o, w.frozen? ⟨g, o, none⟩ = false := fun o => by
    rcases hown.2 with ⟨e', _⟩ | ⟨g', cap', cur, e', _, hh, _⟩
    · cases e'
    · injection e' with e1 e2 e3
      injection e1 with e1
      injection e1 with e1
      subst e1
      simp [World.frozen?, hh]
  refine ⟨g, rfl, h0 g rfl, hlt, fun i hi => ?_⟩
  rw [List.length_map] at hi
  obtain ⟨zs, v, xs, hcs, hz, hlen, hr⟩ := hM (hreps.2 i l[i] (List.getElem?_eq_getElem hi))
  rw [hsz] at hcs
  have hcell : ∀ (j : Nat) (u : Value), (zs.map (Value.int .i64) ++ [v])[j]? = some u → w.cell? ⟨g, i * (m + 1) + j, none⟩ = some u := fun j u hu => by
    have h1 : inner[i * (m + 1) + j]? = some u := by
      rw [← hcs, List.getElem?_take] at hu
      split at hu
      · rw [List.getElem?_drop] at hu
        exact hu
      · cases hu
    have := hown.cells (g := g) rfl _ u h1
    unfold Addr.add at this
    split at this
    · rename_i h0
      simpa [h0] using this
    · simpa using this
  obtain ⟨B, cB, rfl, _, _⟩ := Kd.R_reads hr
  refine ⟨fun j hj => ⟨⟨zs[j]'(by omega), hcell j _ ?_⟩, hfz _⟩, B, cB, ?_, ?_⟩
  · rw [List.getElem?_append_left (by simp; omega), List.getElem?_map, List.getElem?_eq_getElem (by omega)]
    rfl
  · have := hcell m (.slice B xs.length cB) (by rw [List.getElem?_append_right (by simp [hz])]; simp [hz])
    simpa [hlen] using this
  · have := RowI.mono (RowI.of_R hr (by rw [hlen]; exact hx _ (List.getElem_mem _))) (fun k hk => hk.1)
    simpa [hlen] using this
def tot (m : Nat) : List Nat → Nat
  | [] => 0
  | k :: r => m + k + tot m r
theorem tot_snoc (m : Nat) : ∀ (a : List Nat) (k : Nat), tot m (a ++ [k]) = tot m a + (m + k)
  | [], k => by simp [tot]
  | x :: a, k => by simp only [List.cons_append, tot, tot_snoc m a k]; omega
theorem tot_take (m : Nat) (ns : List Nat) (i : Nat) (hi : i < ns.length) : tot m (ns.take (i + 1)) = tot m (ns.take i) + (m + ns[i]) := by
  rw [List.take_succ_eq_append_getElem hi, tot_snoc]
theorem tot_take_le (m : Nat) : ∀ (ns : List Nat) (i : Nat), tot m (ns.take i) ≤ tot m ns
  | [], i => by simp [tot]
  | k :: r, 0 => by simp [tot]
  | k :: r, i + 1 => by simp only [List.take_succ_cons, tot]; have := tot_take_le m r i; omega
end Go.Proofs.Ytiimiogpiflkdaa.M
end

section
set_option linter.unusedVariables false
set_option linter.unusedSimpArgs false
namespace Go.Proofs.Ytiimiogpiflkdaa.A
open Go Go.RowKit Go.Proofs.YtiimiogpiflkdaaW.PrintWords Go.Proofs.YtiimiogpiflkdaaW.PrintLast Go.Proofs.YtiimiogpiflkdaaW.PrintMore
def loose {α : Type} (f : Nat → Nat) (d : Kd α) : Kd (α × Nat × Option (List Value)) where
  sz := d.sz
  E := d.E
  K := fun w y cs => (∀ c, y.2.2 = some c → cs = c ∧ cs.length = d.sz ∧ ∀ u ∈ cs, u.oneCell' = true) ∧ (y.2.2 = none → d.K w y.1 cs)
  M := fun w base ok y cs => (∀ c, y.2.2 = some c → cs = c ∧ cs.length = d.sz ∧ ∀ u ∈ cs, u.oneCell' = true) ∧ (y.2.2 = none → d.M w base (fun k => ok k ∧ f k = y.2.1) y.1 cs)
  K_len := fun {w y cs} h => by
    cases e : y.2.2 with
    | some c => exact (h.1 c e).2.1
    | none => exact d.K_len (h.2 e)
  K_one := fun {w y cs} h => by
    cases e : y.2.2 with
    | some c => exact (h.1 c e).2.2
    | none => exact d.K_one (h.2 e)
  K_below := fun hb h => ⟨h.1, fun e => d.K_below hb (h.2 e)⟩
  K_of_M := fun h => ⟨h.1, fun e => d.K_of_M (h.2 e)⟩
  M_mono := fun hok h => ⟨h.1, fun e => d.M_mono (fun k hk => ⟨hok k hk.1, hk.2⟩) (h.2 e)⟩
  M_bound := fun h => ⟨h.1, fun e => d.M_mono (fun _ hk => ⟨⟨hk.1.1, hk.2⟩, hk.1.2⟩) (d.M_bound (h.2 e))⟩
  M_move := fun hm h => ⟨h.1, fun e => d.M_move (fun k hk => hm k hk.1) (h.2 e)⟩
  M_lower := fun hb h => ⟨h.1, fun e => d.M_lower hb (h.2 e)⟩
section
variable {α : Type} {d : Kd α} {e base g n cap : Nat} {W : World} {ok ok' : Nat → Prop} {xs : List α}
theorem loosen (h : Kd.S d e W base ok (.slice (some ⟨g, 0, none⟩) n cap) xs) : ∃ (f : Nat → Nat) (c : Nat → List Value),
    (∀ q x, xs[q]? = some x → d.M W base (fun k => (ok k ∧ k ≠ g) ∧ f k = q) x (c q) ∧ ∀ j u, (c q)[j]? = some u → W.cell? ⟨g, q * d.sz + j, none⟩ = some u) ∧
    ∀ P : Nat → Bool, (loose f d).R e W base (fun k => ok k ∧ (k = g ∨ P (f k) = false)) (.slice (some ⟨g, 0, none⟩) n cap) (xs.zipIdx.map (fun p => (p.1, p.2, if P p.2 = true then some (c p.2) else none))) := by
  obtain ⟨f, h0, inner, ho, hr⟩ := h
  have hg : some g = (Value.slice (some ⟨g, 0, none⟩) n cap).ownBlock := by simp [Value.ownBlock]
  have hng : ∀ k, some k ≠ (Value.slice (some ⟨g, 0, none⟩) n cap).ownBlock ↔ k ≠ g := fun k => by rw [← hg]; simp
  have hM : ∀ q x, xs[q]? = some x → d.M W base (fun k => (ok k ∧ k ≠ g) ∧ f k = q) x ((inner.drop (q * d.sz)).take d.sz) := fun q x hq =>
    d.M_mono (fun k hk => ⟨⟨hk.1.1, (hng k).1 hk.1.2⟩, hk.2⟩) (hr.2 q (x, q) (Kd.zip_at hq))
  refine ⟨f, fun q => (inner.drop (q * d.sz)).take d.sz, fun q x hq => ⟨hM q x hq, fun j u hu => ?_⟩, fun P => ⟨fun k hk => ⟨h0 k hk, .inl ?_⟩, inner, ?_, ?_, fun q y hy => ?_⟩⟩
  · rw [List.getElem?_take] at hu
    split at hu
    · rw [List.getElem?_drop] at hu
      have := ho.cells (g := g) hg.symm _ u hu
      rwa [add_plain] at this
    · cases hu
  · rw [← hg] at hk
    injection hk with hk
    exact hk.symm
  · rw [List.length_map]
    exact ho
  · rw [List.length_map]
    exact hr.1
  · rw [List.getElem?_map, List.getElem?_zipIdx, Nat.zero_add] at hy
    obtain ⟨p, hp, rfl⟩ := Option.map_eq_some_iff.1 hy
    obtain ⟨x, hx, rfl⟩ := Option.map_eq_some_iff.1 hp
    have hm := hM q x hx
    refine ⟨fun c hc => ?_, fun hc => ?_⟩
    · simp only at hc
      split at hc
      · injection hc with hc
        exact ⟨hc, d.K_len (d.K_of_M hm), d.K_one (d.K_of_M hm)⟩
      · cases hc
    · simp only at hc
      split at hc
      · cases hc
      · rename_i hP
        refine d.M_mono (fun k hk => ⟨⟨⟨hk.1.1, .inr ?_⟩, (hng k).2 hk.1.2⟩, hk.2⟩) hm
        rw [hk.2]
        simpa using hP
open Classical in
theorem tighten {f : Nat → Nat} {okL : Nat → Prop} {ys : List (α × Nat × Option (List Value))} (h : (loose f d).R e W base okL (.slice (some ⟨g, 0, none⟩) n cap) ys) (hidx : ∀ (q : Nat) (y : α × Nat × Option (List Value)), ys[q]? = some y → y.2.1 = q) (okx : Nat → Nat → Prop)
    (hM : ∀ (q : Nat) (y : α × Nat × Option (List Value)) (c : List Value), ys[q]? = some y → y.2.2 = some c → d.M W base (okx q) y.1 c) (hdis : ∀ q r k, okx q k → okx r k → q = r) (hno : ∀ q k, okx q k → k ≠ g ∧ ¬ okL k) : Kd.S d e W base (fun _ => True) (.slice (some ⟨g, 0, none⟩) n cap) (ys.map (fun y => y.1)) := by
  obtain ⟨h0, inner, ho, hr⟩ := h
  have hg : some g = (Value.slice (some ⟨g, 0, none⟩) n cap).ownBlock := by simp [Value.ownBlock]
  have hng : ∀ k, some k ≠ (Value.slice (some ⟨g, 0, none⟩) n cap).ownBlock ↔ k ≠ g := fun k => by rw [← hg]; simp
  refine ⟨fun k => if hk : ∃ q, okx q k then hk.choose else f k, fun _ _ => trivial, inner, ?_, ?_, fun q p hp => ?_⟩
  · rw [List.length_zipIdx, List.length_map]
    exact ho
  · rw [List.length_zipIdx, List.length_map]
    exact hr.1
  · rw [List.getElem?_zipIdx, Nat.zero_add, List.getElem?_map] at hp
    obtain ⟨x, hx, rfl⟩ := Option.map_eq_some_iff.1 hp
    obtain ⟨y, hy, rfl⟩ := Option.map_eq_some_iff.1 hx
    have hm := hr.2 q y hy
    have hq := hidx q y hy
    show d.M W base _ y.1 ((inner.drop (q * d.sz)).take d.sz)
    cases ey : y.2.2 with
    | some c =>
      have hc := (hm.1 c ey).1
      rw [show (inner.drop (q * d.sz)).take d.sz = c from hc]
      refine d.M_mono (fun k hk => ⟨⟨trivial, (hng k).2 (hno q k hk).1⟩, ?_⟩) (hM q y c hy ey)
      have hk2 : ∃ q, okx q k := ⟨q, hk⟩
      exact (dif_pos hk2).trans (hdis _ _ k hk2.choose_spec hk)
    | none =>
      refine d.M_mono (fun k hk => ⟨⟨trivial, hk.1.2⟩, ?_⟩) (hm.2 ey)
      have hk2 : ¬ ∃ q, okx q k := fun ⟨r, hr⟩ => (hno r k hr).2 hk.1.1
      exact ((dif_neg hk2).trans hk.2).trans hq
end
def withMet (x : S61) (y : List Int) : S61 := ⟨x.f0, x.f1, x.f2, x.f3, x.f4, y⟩
theorem two_met {base g n cap : Nat} {W W2 : World} {xs : List S61} {i j : Int} {A1 B1 A2 B2 : Option Addr} {m1 m2 c1 c2 d1 d2 : Nat} {y1 y2 : List Int}
    (hS : Kd.S k61 61 W base (fun _ => True) (.slice (some ⟨g, 0, none⟩) n cap) xs) (hi : 0 ≤ i) (hi' : i < n) (hj : 0 ≤ j) (hj' : j < n) (hne : i ≠ j)
    (hci : W.cell? ⟨g, i.toNat * 6 + 5, none⟩ = some (.slice A1 m1 c1)) (hcj : W.cell? ⟨g, j.toNat * 6 + 5, none⟩ = some (.slice A2 m2 c2))
    (hk : ∀ k, k < W.heap.size → some k ≠ (Value.slice A1 m1 c1).ownBlock → some k ≠ (Value.slice A2 m2 c2).ownBlock → W2.heap[k]? = W.heap[k]?)
    (hR1 : Kd.R (Kd.int .i64) 3 W2 base (fun _ => True) (.slice B1 y1.length d1) y1) (hR2 : Kd.R (Kd.int .i64) 3 W2 base (fun _ => True) (.slice B2 y2.length d2) y2)
    (h1 : (Value.slice B1 y1.length d1).ownBlock = (Value.slice A1 m1 c1).ownBlock ∨ ∃ b, (Value.slice B1 y1.length d1).ownBlock = some b ∧ W.heap.size ≤ b)
    (h2 : (Value.slice B2 y2.length d2).ownBlock = (Value.slice A2 m2 c2).ownBlock ∨ ∃ b, (Value.slice B2 y2.length d2).ownBlock = some b ∧ W.heap.size ≤ b ∧ (Value.slice B1 y1.length d1).ownBlock ≠ some b) :
    W2.cell? ⟨g, i.toNat * 6 + 5, none⟩ = some (.slice A1 m1 c1) ∧ W2.frozen? ⟨g, i.toNat * 6 + 5, none⟩ = false ∧
    (W2.setCell ⟨g, i.toNat * 6 + 5, none⟩ (.slice B1 y1.length d1)).cell? ⟨g, j.toNat * 6 + 5, none⟩ = some (.slice A2 m2 c2) ∧
    (W2.setCell ⟨g, i.toNat * 6 + 5, none⟩ (.slice B1 y1.length d1)).frozen? ⟨g, j.toNat * 6 + 5, none⟩ = false ∧
    Kd.S k61 61 ((W2.setCell ⟨g, i.toNat * 6 + 5, none⟩ (.slice B1 y1.length d1)).setCell ⟨g, j.toNat * 6 + 5, none⟩ (.slice B2 y2.length d2)) base (fun _ => True) (.slice (some ⟨g, 0, none⟩) n cap)
      ((xs.set i.toNat (withMet (rd_T61 xs i) y1)).set j.toNat (withMet (rd_T61 (xs.set i.toNat (withMet (rd_T61 xs i) y1)) j) y2)) := by
  have hn := (Kd.S_reads' hS).1
  have hgl : g < W.heap.size := Kd.S_lt hS g rfl
  obtain ⟨f, c, hc, hL⟩ := loosen (Kd.S_mono (Kd.S_bound hS) (fun k hk => hk.2.2.1) : Kd.S k61 61 W base (fun k => k < W.heap.size) (.slice (some ⟨g, 0, none⟩) n cap) xs)
  obtain ⟨a, ha⟩ : ∃ a, i.toNat = a := ⟨_, rfl⟩
  obtain ⟨b, hb⟩ := (⟨j.toNat, rfl⟩ : ∃ b, j.toNat = b)
  have hal : a < xs.length := by omega
  have hbl : b < xs.length := by omega
  have hab : a ≠ b := by omega
  have hxa : rd_T61 xs i = xs[a] := by simp [rd_T61, ha, hal]
  have hxb : rd_T61 (xs.set i.toNat (withMet (rd_T61 xs i) y1)) j = xs[b] := by
    show (xs.set i.toNat _).getD j.toNat z61 = xs[b]
    rw [ha, hb, List.getD_eq_getElem?_getD, List.getElem?_set_ne hab, List.getElem?_eq_getElem hbl]
    rfl
  rw [hxb, hxa]
  simp only [ha, hb] at hci hcj ⊢
  obtain ⟨M1, C1⟩ := hc a _ (List.getElem?_eq_getElem hal)
  obtain ⟨M2, C2⟩ := hc b _ (List.getElem?_eq_getElem hbl)
  obtain ⟨v1, ev1, R1⟩ := k61_openM M1
  obtain ⟨v2, ev2, R2⟩ := k61_openM M2
  have e1 : v1 = .slice A1 m1 c1 := by
    have := C1 5 v1 (by rw [ev1]; rfl)
    rw [show (k61).sz = 6 from rfl, hci] at this
    injection this with this
    exact this.symm
  have e2 : v2 = .slice A2 m2 c2 := by
    have := C2 5 v2 (by rw [ev2]; rfl)
    rw [show (k61).sz = 6 from rfl, hcj] at this
    injection this with this
    exact this.symm
  subst e1 e2
  have hLP := hL (fun q => decide (q = a ∨ q = b))
  have hW2 : ∀ k, (k < W.heap.size ∧ (k = g ∨ decide (f k = a ∨ f k = b) = false)) → k < W.heap.size → W2.heap[k]? = W.heap[k]? := by
    rintro k ⟨_, hf⟩ hlt
    refine hk k hlt (fun e => ?_) (fun e => ?_)
    · have := R1.1 k e.symm
      rcases hf with hf | hf
      · exact this.1.2 hf
      · simp [this.2] at hf
    · have := R2.1 k e.symm
      rcases hf with hf | hf
      · exact this.1.2 hf
      · simp [this.2] at hf
  have hL2 := Kd.R_step hLP hW2
  have hgW : W2.heap[g]? = W.heap[g]? := hW2 g ⟨hgl, .inl rfl⟩ hgl
  have hcell : ∀ o, W2.cell? ⟨g, o, none⟩ = W.cell? ⟨g, o, none⟩ := fun o => World.cell?_of_block (a := ⟨g, o, none⟩) hgW
  obtain ⟨cells, hcs⟩ := Kd.S_typed hS g rfl
  have hfz : ∀ o, W2.frozen? ⟨g, o, none⟩ = false := fun o => by
    rw [World.frozen?_of_block (a := ⟨g, o, none⟩) hgW]
    exact blk_frozen hcs _
  have hcj2 : (W2.setCell ⟨g, a * 6 + 5, none⟩ (.slice B1 y1.length d1)).cell? ⟨g, b * 6 + 5, none⟩ = some (.slice A2 m2 c2) := (M.cell_set_ne (fun _ => by show b * 6 + 5 ≠ a * 6 + 5; omega)).trans ((hcell _).trans hcj)
  refine ⟨(hcell _).trans hci, hfz _, hcj2, M.frozen_set.trans (hfz _), ?_⟩
  -- the two stores, on the loose row
  have hzs : ∀ q x, xs[q]? = some x → (xs.zipIdx.map (fun p => (p.1, p.2, if (decide (p.2 = a ∨ p.2 = b)) = true then some (c p.2) else none)))[q]? = some (x, q, if q = a ∨ q = b then some (c q) else none) := fun q x hq => by
    rw [List.getElem?_map, Kd.zip_at hq]
    simp
  have hcc1 : ∀ j u, (c a)[j]? = some u → W2.cell? ⟨g, ((a : Nat) : Int).toNat * (loose f k61).sz + j, none⟩ = some u := fun j u hu => (hcell _).trans (C1 j u hu)
  obtain ⟨s1, g1⟩ := Kd.R_seg (d := loose f k61) hL2 ((a : Nat) : Int) (by omega) (by omega) (c := c a) (seg := [.slice B1 y1.length d1]) (j := 5) (by rw [ev1]; rfl) hcc1 (show 6 ≤ 6 from by decide)
    (x' := (withMet xs[a] y1, a, some [.int .i64 xs[a].f0, .int .i64 xs[a].f1, .int .i64 xs[a].f2, .int .i64 xs[a].f3, .int .i64 xs[a].f4, .slice B1 y1.length d1])) (okp := fun _ => False)
    ⟨fun z hz => by
      injection hz with hz
      subst hz
      rw [ev1]
      refine ⟨rfl, rfl, fun u hu => ?_⟩
      simp only [List.take_succ_cons, List.take_zero, List.cons_append, List.nil_append, List.length_cons, List.length_nil, List.drop_succ_cons, List.drop_zero, List.mem_cons, List.not_mem_nil, or_false, List.drop_nil, List.append_nil] at hu
      rcases hu with rfl | rfl | rfl | rfl | rfl | rfl <;> rfl, fun h => by cases h⟩ (fun _ h => h.elim)
  have hcc2 : ∀ j u, (c b)[j]? = some u → (W2.setCells g (((a : Nat) : Int).toNat * (loose f k61).sz + 5) [.slice B1 y1.length d1]).cell? ⟨g, ((b : Nat) : Int).toNat * (loose f k61).sz + j, none⟩ = some u := fun j u hu => by
    have hj6 : j < 6 := by
      have := (List.getElem?_eq_some_iff.1 hu).1
      rw [ev2] at this
      exact this
    refine (M.cell_set_ne (g := g) (o := a * 6 + 5) (fun _ => ?_)).trans ((hcell _).trans (C2 j u hu))
    show b * 6 + j ≠ a * 6 + 5
    omega
  obtain ⟨s2, g2⟩ := Kd.R_seg (d := loose f k61) s1 ((b : Nat) : Int) (by omega) (by omega) (c := c b) (seg := [.slice B2 y2.length d2]) (j := 5) (by rw [ev2]; rfl) hcc2 (show 6 ≤ 6 from by decide)
    (x' := (withMet xs[b] y2, b, some [.int .i64 xs[b].f0, .int .i64 xs[b].f1, .int .i64 xs[b].f2, .int .i64 xs[b].f3, .int .i64 xs[b].f4, .slice B2 y2.length d2])) (okp := fun _ => False)
    ⟨fun z hz => by
      injection hz with hz
      subst hz
      rw [ev2]
      refine ⟨rfl, rfl, fun u hu => ?_⟩
      simp only [List.take_succ_cons, List.take_zero, List.cons_append, List.nil_append, List.length_cons, List.length_nil, List.drop_succ_cons, List.drop_zero, List.mem_cons, List.not_mem_nil, or_false, List.drop_nil, List.append_nil] at hu
      rcases hu with rfl | rfl | rfl | rfl | rfl | rfl <;> rfl, fun h => by cases h⟩ (fun _ h => h.elim)
  -- the new rows' blocks
  have hB1 : ∀ k, (Value.slice B1 y1.length d1).ownBlock = some k → (k < W.heap.size ∧ k ≠ g ∧ f k = a) ∨ W.heap.size ≤ k := fun k hk => by
    rcases h1 with h1 | ⟨q, h1, hq⟩
    · have := R1.1 k (h1 ▸ hk)
      exact .inl ⟨this.1.1, this.1.2, this.2⟩
    · rw [h1] at hk
      injection hk with hk
      exact .inr (hk ▸ hq)
  have hB2 : ∀ k, (Value.slice B2 y2.length d2).ownBlock = some k → (k < W.heap.size ∧ k ≠ g ∧ f k = b) ∨ (W.heap.size ≤ k ∧ (Value.slice B1 y1.length d1).ownBlock ≠ some k) := fun k hk => by
    rcases h2 with h2 | ⟨q, h2, hq, hne⟩
    · have := R2.1 k (h2 ▸ hk)
      exact .inl ⟨this.1.1, this.1.2, this.2⟩
    · rw [h2] at hk
      injection hk with hk
      subst hk
      exact .inr ⟨hq, hne⟩
  have hn1 : ∀ k, (Value.slice B1 y1.length d1).ownBlock = some k → k ≠ g := fun k hk => by
    rcases hB1 k hk with h | h
    · exact h.2.1
    · omega
  have hn2 : ∀ k, (Value.slice B2 y2.length d2).ownBlock = some k → k ≠ g := fun k hk => by
    rcases hB2 k hk with h | h
    · exact h.2.1
    · omega
  have T1 : Kd.R (Kd.int .i64) 3 ((W2.setCells g (((a : Nat) : Int).toNat * (loose f k61).sz + 5) [.slice B1 y1.length d1]).setCells g (((b : Nat) : Int).toNat * (loose f k61).sz + 5) [.slice B2 y2.length d2]) base (fun k => some k = (Value.slice B1 y1.length d1).ownBlock) (.slice B1 y1.length d1) y1 :=
    Kd.R_step (Kd.R_step (Kd.R_tight rfl hR1) (fun k hk hlt => g1.block k hlt (fun e => hn1 k hk.symm (by injection e)))) (fun k hk hlt => g2.block k hlt (fun e => hn1 k hk.symm (by injection e)))
  have T2 : Kd.R (Kd.int .i64) 3 ((W2.setCells g (((a : Nat) : Int).toNat * (loose f k61).sz + 5) [.slice B1 y1.length d1]).setCells g (((b : Nat) : Int).toNat * (loose f k61).sz + 5) [.slice B2 y2.length d2]) base (fun k => some k = (Value.slice B2 y2.length d2).ownBlock) (.slice B2 y2.length d2) y2 :=
    Kd.R_step (Kd.R_step (Kd.R_tight rfl hR2) (fun k hk hlt => g1.block k hlt (fun e => hn2 k hk.symm (by injection e)))) (fun k hk hlt => g2.block k hlt (fun e => hn2 k hk.symm (by injection e)))
  have hys : ∀ q y, (((xs.zipIdx.map (fun p => (p.1, p.2, if (decide (p.2 = a ∨ p.2 = b)) = true then some (c p.2) else none))).set ((a : Nat) : Int).toNat (withMet xs[a] y1, a, some [.int .i64 xs[a].f0, .int .i64 xs[a].f1, .int .i64 xs[a].f2, .int .i64 xs[a].f3, .int .i64 xs[a].f4, .slice B1 y1.length d1])).set ((b : Nat) : Int).toNat (withMet xs[b] y2, b, some [.int .i64 xs[b].f0, .int .i64 xs[b].f1, .int .i64 xs[b].f2, .int .i64 xs[b].f3, .int .i64 xs[b].f4, .slice B2 y2.length d2]))[q]? = some y →
      (q = b ∧ y = (withMet xs[b] y2, b, some [.int .i64 xs[b].f0, .int .i64 xs[b].f1, .int .i64 xs[b].f2, .int .i64 xs[b].f3, .int .i64 xs[b].f4, .slice B2 y2.length d2])) ∨ (q = a ∧ y = (withMet xs[a] y1, a, some [.int .i64 xs[a].f0, .int .i64 xs[a].f1, .int .i64 xs[a].f2, .int .i64 xs[a].f3, .int .i64 xs[a].f4, .slice B1 y1.length d1])) ∨ (q ≠ a ∧ q ≠ b ∧ ∃ x, xs[q]? = some x ∧ y = (x, q, none)) := by
    intro q y hy
    rw [Int.toNat_natCast, Int.toNat_natCast] at hy
    by_cases eb : b = q
    · subst eb
      rw [List.getElem?_set_self (by simpa using hbl)] at hy
      exact .inl ⟨rfl, (Option.some.inj hy).symm⟩
    · rw [List.getElem?_set_ne eb] at hy
      by_cases ea : a = q
      · subst ea
        rw [List.getElem?_set_self (by simpa using hal)] at hy
        exact .inr (.inl ⟨rfl, (Option.some.inj hy).symm⟩)
      · rw [List.getElem?_set_ne ea] at hy
        have hl := (List.getElem?_eq_some_iff.1 hy).1
        rw [List.length_map, List.length_zipIdx] at hl
        have h3 := hzs q xs[q] (List.getElem?_eq_getElem hl)
        rw [h3] at hy
        rw [if_neg (by omega)] at hy
        exact .inr (.inr ⟨Ne.symm ea, Ne.symm eb, xs[q], List.getElem?_eq_getElem hl, (Option.some.inj hy).symm⟩)
  have hfin := tighten s2 (fun q y hy => by
      rcases hys q y hy with ⟨rfl, rfl⟩ | ⟨rfl, rfl⟩ | ⟨_, _, x, _, rfl⟩ <;> rfl)
    (fun q k => (q = a ∧ some k = (Value.slice B1 y1.length d1).ownBlock) ∨ (q = b ∧ some k = (Value.slice B2 y2.length d2).ownBlock))
    (fun q y z hy hz => by
      rcases hys q y hy with ⟨rfl, rfl⟩ | ⟨rfl, rfl⟩ | ⟨_, _, x, _, rfl⟩
      · injection hz with hz
        subst hz
        exact Kd.M_mono _ (fun k hk => .inr ⟨rfl, hk⟩) (k61_mkM _ _ _ (withMet xs[q] y2) T2)
      · injection hz with hz
        subst hz
        exact Kd.M_mono _ (fun k hk => .inl ⟨rfl, hk⟩) (k61_mkM _ _ _ (withMet xs[q] y1) T1)
      · cases hz)
    (fun q r k hq hr => by
      have hx : ∀ k, some k = (Value.slice B1 y1.length d1).ownBlock → some k = (Value.slice B2 y2.length d2).ownBlock → False := fun k h3 h4 => by
        rcases hB2 k h4.symm with h5 | h5
        · rcases hB1 k h3.symm with h6 | h6
          · exact hab (h6.2.2.symm.trans h5.2.2)
          · omega
        · exact h5.2 h3.symm
      rcases hq with ⟨rfl, hq⟩ | ⟨rfl, hq⟩ <;> rcases hr with ⟨rfl, hr⟩ | ⟨rfl, hr⟩
      · rfl
      · exact (hx k hq hr).elim
      · exact (hx k hr hq).elim
      · rfl)
    (fun q k hq => by
      rcases hq with ⟨rfl, hq⟩ | ⟨rfl, hq⟩
      · refine ⟨hn1 k hq.symm, fun h => ?_⟩
        rcases hB1 k hq.symm with h6 | h6
        · rcases h.2 with h7 | h7
          · exact h6.2.1 h7
          · simp [h6.2.2] at h7
        · omega
      · refine ⟨hn2 k hq.symm, fun h => ?_⟩
        rcases hB2 k hq.symm with h6 | h6
        · rcases h.2 with h7 | h7
          · exact h6.2.1 h7
          · simp [h6.2.2] at h7
        · omega)
  have hmap : ((xs.zipIdx.map (fun p => (p.1, p.2, if (decide (p.2 = a ∨ p.2 = b)) = true then some (c p.2) else none))).map (fun y : S61 × Nat × Option (List Value) => y.1)) = xs := by
    rw [List.map_map]
    exact List.zipIdx_map_fst 0 xs
  rw [List.map_set, List.map_set, hmap, Int.toNat_natCast, Int.toNat_natCast] at hfin
  exact hfin
theorem two_rows {base g n cap : Nat} {W : World} {xs : List S61} {i j : Int} {A1 A2 : Option Addr} {m1 m2 c1 c2 : Nat}
    (hS : Kd.S k61 61 W base (fun _ => True) (.slice (some ⟨g, 0, none⟩) n cap) xs) (hi : 0 ≤ i) (hi' : i < n) (hj : 0 ≤ j) (hj' : j < n) (hne : i ≠ j)
    (hci : W.cell? ⟨g, i.toNat * 6 + 5, none⟩ = some (.slice A1 m1 c1)) (hcj : W.cell? ⟨g, j.toNat * 6 + 5, none⟩ = some (.slice A2 m2 c2)) :
    Kd.R (Kd.int .i64) 3 W base (fun _ => True) (.slice A1 m1 c1) (rd_T61 xs i).f5 ∧ Kd.R (Kd.int .i64) 3 W base (fun _ => True) (.slice A2 m2 c2) (rd_T61 xs j).f5 ∧
      (∀ k, (Value.slice A1 m1 c1).ownBlock = some k → (Value.slice A2 m2 c2).ownBlock ≠ some k) ∧ (∀ k, (Value.slice A1 m1 c1).ownBlock = some k → k ≠ g) ∧ (∀ k, (Value.slice A2 m2 c2).ownBlock = some k → k ≠ g) := by
  have hn := (Kd.S_reads' hS).1
  obtain ⟨f, c, hc, _⟩ := loosen hS
  obtain ⟨a, ha⟩ : ∃ a, i.toNat = a := ⟨_, rfl⟩
  obtain ⟨b, hb⟩ := (⟨j.toNat, rfl⟩ : ∃ b, j.toNat = b)
  have hal : a < xs.length := by omega
  have hbl : b < xs.length := by omega
  have hab : a ≠ b := by omega
  have hxa : rd_T61 xs i = xs[a] := by simp [rd_T61, ha, hal]
  have hxb : rd_T61 xs j = xs[b] := by simp [rd_T61, hb, hbl]
  rw [hxb, hxa]
  simp only [ha, hb] at hci hcj
  obtain ⟨M1, C1⟩ := hc a _ (List.getElem?_eq_getElem hal)
  obtain ⟨M2, C2⟩ := hc b _ (List.getElem?_eq_getElem hbl)
  obtain ⟨v1, ev1, R1⟩ := k61_openM M1
  obtain ⟨v2, ev2, R2⟩ := k61_openM M2
  have e1 : v1 = .slice A1 m1 c1 := by
    have := C1 5 v1 (by rw [ev1]; rfl)
    rw [show (k61).sz = 6 from rfl, hci] at this
    injection this with this
    exact this.symm
  have e2 : v2 = .slice A2 m2 c2 := by
    have := C2 5 v2 (by rw [ev2]; rfl)
    rw [show (k61).sz = 6 from rfl, hcj] at this
    injection this with this
    exact this.symm
  subst e1 e2
  exact ⟨Kd.R_mono R1 (fun _ _ => trivial), Kd.R_mono R2 (fun _ _ => trivial), fun k h1 h2 => hab ((R1.1 k h1).2.symm.trans (R2.1 k h2).2), fun k h1 => (R1.1 k h1).1.2, fun k h2 => (R2.1 k h2).1.2⟩
theorem rd_other {xs : List S61} {i j : Int} {x : S61} (hi : 0 ≤ i) (hj : 0 ≤ j) (hne : i ≠ j) : rd_T61 (xs.set i.toNat x) j = rd_T61 xs j := by
  have : i.toNat ≠ j.toNat := by omega
  simp [rd_T61, List.getElem?_set_ne this]
theorem store_step {P : Program} {ops : Array Oper} {o : Oper} {a : Act} {Q : Exit → Act → World → Prop} {Kc : Act → World → Prop} {W w1 : World} (hw : Region.wanted o (yielded ops a.tmps) = true) (hN : o.dst = none) (hrun : (execOp a.eval o).run P W = .ok .skip w1) (h : Kc a w1) :
    if Region.wanted o (yielded ops a.tmps) = true then Oper.wp P o a W Kc Q else Kc (a.put o.dst undef) W := by
  rw [if_pos hw]
  unfold Oper.wp
  rw [hrun]
  show Kc (a.put o.dst undef) w1
  rw [hN]
  exact h
structure TwoF (w wd w' : World) (v1 v2 vi vj : Value) (y1 y2 : List Int) : Prop where
  below : Below w.heap.size w w'
  size : wd.heap.size ≤ w'.heap.size
  keep : ∀ k, k < wd.heap.size → some k ≠ vi.ownBlock → some k ≠ vj.ownBlock → w'.heap[k]? = wd.heap[k]?
  r1 : Kd.R (Kd.int .i64) 3 w' w.heap.size (fun _ => True) v1 y1
  r2 : Kd.R (Kd.int .i64) 3 w' w.heap.size (fun _ => True) v2 y2
  h1 : v1.ownBlock = vi.ownBlock ∨ ∃ b, v1.ownBlock = some b ∧ wd.heap.size ≤ b
  h2 : v2.ownBlock = vj.ownBlock ∨ ∃ b, v2.ownBlock = some b ∧ wd.heap.size ≤ b ∧ v1.ownBlock ≠ some b
structure TwoA (w wd W : World) (vi vj : Value) (xi xj : List Int) : Prop where
  below : Below w.heap.size w W
  new : Below wd.heap.size wd W
  r1 : Kd.R (Kd.int .i64) 3 W w.heap.size (fun _ => True) vi xi
  r2 : Kd.R (Kd.int .i64) 3 W w.heap.size (fun _ => True) vj xj
theorem TwoA.box {w wd W W1 : World} {vi vj : Value} {xi xj : List Int} (h : TwoA w wd W vi vj xi xj) (hb : Below W.heap.size W W1) : TwoA w wd W1 vi vj xi xj :=
  ⟨below_step h.below hb, below_step h.new hb, Kd.R_below h.r1 hb, Kd.R_below h.r2 hb⟩
structure TwoB (w wd W : World) (v1 vi vj : Value) (y1 xj : List Int) : Prop where
  below : Below w.heap.size w W
  size : wd.heap.size ≤ W.heap.size
  keep : ∀ k, k < wd.heap.size → some k ≠ vi.ownBlock → some k ≠ vj.ownBlock → W.heap[k]? = wd.heap[k]?
  r1 : Kd.R (Kd.int .i64) 3 W w.heap.size (fun _ => True) v1 y1
  r2 : Kd.R (Kd.int .i64) 3 W w.heap.size (fun _ => True) vj xj
  ap : ∀ k, v1.ownBlock = some k → vj.ownBlock ≠ some k
  h1 : v1.ownBlock = vi.ownBlock ∨ ∃ b, v1.ownBlock = some b ∧ wd.heap.size ≤ b
theorem TwoA.append {w wd W W1 : World} {v1 vi vj : Value} {y1 xi xj : List Int} (h : TwoA w wd W vi vj xi xj) (hap : ∀ k, vi.ownBlock = some k → vj.ownBlock ≠ some k)
    (ho : Kd.R (Kd.int .i64) 3 W1 w.heap.size (fun _ => True) v1 y1) (hb : Below w.heap.size w W1) (hg : W.grownBy W1 vi.ownBlock) (hat : v1.ownBlock = vi.ownBlock ∨ ∃ b, v1.ownBlock = some b ∧ W.heap.size ≤ b) : TwoB w wd W1 v1 vi vj y1 xj where
  below := hb
  size := Nat.le_trans h.new.size hg.size
  keep := fun k hk h1 _ => (hg.block k (Nat.lt_of_lt_of_le hk h.new.size) h1).trans (h.new.block k hk)
  r1 := ho
  r2 := Kd.R_mono (Kd.R_step (Kd.R_tight rfl h.r2) (fun k hk hlt => hg.block k hlt (fun e => hap k e.symm hk.symm))) (fun _ _ => trivial)
  ap := fun k h1 h2 => by
    rcases hat with e | ⟨b, e, hb⟩
    · exact hap k (e ▸ h1) h2
    · rw [e] at h1
      injection h1 with h1
      have := Kd.R_lt h.r2 k h2
      omega
  h1 := hat.imp id (fun ⟨b, e, hb⟩ => ⟨b, e, Nat.le_trans h.new.size hb⟩)
theorem TwoB.box {w wd W W1 : World} {v1 vi vj : Value} {y1 xj : List Int} (h : TwoB w wd W v1 vi vj y1 xj) (hb : Below W.heap.size W W1) : TwoB w wd W1 v1 vi vj y1 xj :=
  ⟨below_step h.below hb, Nat.le_trans h.size hb.size, fun k hk h1 h2 => (hb.block k (Nat.lt_of_lt_of_le hk h.size)).trans (h.keep k hk h1 h2), Kd.R_below h.r1 hb, Kd.R_below h.r2 hb, h.ap, h.h1⟩
theorem TwoB.append {w wd W W1 : World} {v1 v2 vi vj : Value} {y1 y2 xj : List Int} (h : TwoB w wd W v1 vi vj y1 xj)
    (ho : Kd.R (Kd.int .i64) 3 W1 w.heap.size (fun _ => True) v2 y2) (hb : Below w.heap.size w W1) (hg : W.grownBy W1 vj.ownBlock) (hat : v2.ownBlock = vj.ownBlock ∨ ∃ b, v2.ownBlock = some b ∧ W.heap.size ≤ b) : TwoF w wd W1 v1 v2 vi vj y1 y2 where
  below := hb
  size := Nat.le_trans h.size hg.size
  keep := fun k hk h1 h2 => (hg.block k (Nat.lt_of_lt_of_le hk h.size) h2).trans (h.keep k hk h1 h2)
  r1 := Kd.R_mono (Kd.R_step (Kd.R_tight rfl h.r1) (fun k hk hlt => hg.block k hlt (fun e => h.ap k hk.symm e.symm))) (fun _ _ => trivial)
  r2 := ho
  h1 := h.h1
  h2 := hat.imp id (fun ⟨b, e, hb⟩ => ⟨b, e, Nat.le_trans h.size hb, fun e2 => by have := Kd.R_lt h.r1 b e2; omega⟩)
end Go.Proofs.Ytiimiogpiflkdaa.A
end

section
namespace Go.Proofs.Ytiimiogpiflkdaa.A
open Go.RowKit Go.Proofs.YtiimiogpiflkdaaW.PrintWords Go.Proofs.YtiimiogpiflkdaaW.PrintLast Go.Proofs.YtiimiogpiflkdaaW.PrintMore
attribute [local go_sem] max2_int min2_int max_two min_two max_three min_three max_four min_four   -- for this text's walks alone
set_option linter.unusedVariables false
set_option linter.unusedSimpArgs false

theorem slices_Clone_int_int_nil {w : World} {a : Option Addr} {n c n' c' : Nat} : (binOp .eql 41 (.slice a n c) (.slice none n' c')).run Try.prog w = .ok (.bool a.isNone) w := by
  have e : ∀ d, (Op.equalIn (d + 1) 41 (.slice a n c) (.slice none n' c')).run Try.prog w = .ok a.isNone w := by
    intro d
    cases a <;> simp [Op.equalIn, run_underlying Try.underlying41]
  simp only [binOp]
  simp [Op.equal, Op.maxDepth, e 9999]
theorem slices_Clone_int_int_alloc {W : World} {a : Addr} {v : Value} (o : Obj) (h : W.cell? a = some v) : (W.alloc o).cell? a = some v := by
  have hlt : a.block < W.heap.size := World.block_lt_of_cell? W a h
  rw [← h]
  simp only [World.cell?, World.alloc, Array.getElem?_push, Nat.ne_of_lt hlt, if_false]
def slices_Clone_int_int.f (l0 : List Int) : Option (List Int) := if l0.length < 17592186044416 then some l0 else none
set_option maxHeartbeats 2000000 in
set_option maxRecDepth 100000 in
theorem slices_Clone_int_int.calls (A0 : Option Addr) (c0 : Nat) (l0 : List Int) (r : List Int) (w : World) (hr0 : Kd.C (Kd.int .i64) w A0 l0.length l0) (hc0 : l0.length ≤ c0) (h : slices_Clone_int_int.f l0 = some r) :
  Calls Try.prog 88 #[.slice A0 l0.length c0] w fun e w' => ∃ v0_, e = .returned v0_ ∧ Kd.R (Kd.int .i64) 3 w' w.heap.size (fun _ => True) v0_ r ∧ Below w.heap.size w w' := by
 have hf : l0.length < 17592186044416 ∧ l0 = r := by
  unfold slices_Clone_int_int.f at h
  split at h
  ·
   exact ⟨by assumption, Option.some.inj h⟩
  ·
   cases h
 obtain ⟨hlen, rfl⟩ := hf
 clear h
 have q41 : ∀ (w : World) (a : Option Addr) (n c n' c' : Nat), (binOp .eql 41 (.slice a n c) (.slice none n' c')).run Try.prog w = .ok (.bool a.isNone) w := fun w a n c n' c' => slices_Clone_int_int_nil
 have u41 : ∀ w, Sem.run Try.prog (underlying 41) w = .ok (TypeDesc.slice 3) w := run_underlying Try.underlying41
 obtain ⟨i0, hi, hzz⟩ := Option.map_eq_some_iff.1 (show (Try.prog.info? 3).map (fun i => (i.zero, i.size, i.bytes)) = some (some (.int .i64 0), 1, 8) by kernel_rfl)
 simp only [Prod.mk.injEq] at hzz
 obtain ⟨hz0, hz1, hz2⟩ := hzz
 cases A0 with
 | none =>
  have hl0 : l0 = [] := by
   rcases Nat.eq_zero_or_pos l0.length with h0 | h0
   ·
    exact List.eq_nil_of_length_eq_zero h0
   ·
    obtain ⟨ad, e, _⟩ := hr0.2.2 h0
    cases e
  subst hl0
  clear hr0 hc0
  go_enter Try.func88, Try.ntmps88
  go_wp2
  go_ret
  exact ⟨_, rfl, Kd.R_nil _ _ _ _ _, Below.refl _ _⟩
 | some ad =>
  have HC := Aside0.mk hr0
  have HL := Aside0.mk hlen
  clear hr0 hc0 hlen
  go_enter Try.func88, Try.ntmps88
  go_wp2_with (at_builtin; refine wpList_append_own _ rfl _ _ 41 rfl w.heap.size 3 i0 (.int .i64 0) 1 8 Try.underlying41 hi hz0 hz1 hz2 rfl (by decide) _ _ _ rfl (World.ownsRow_made w #[] 0 (Nat.le_refl _) (Nat.zero_le _) rfl) ad l0.length c0 (l0.map (Value.int .i64)) rfl ?qc1 ?qc2 ?qc3 ?qc4 ?qc5 ?qc6 ?_)
  case qc1 => simp
  case qc2 =>
   intro j u hj
   refine slices_Clone_int_int_alloc _ ?_
   rw [List.getElem?_map] at hj
   obtain ⟨x, hx, rfl⟩ := Option.map_eq_some_iff.1 hj
   have hjl : j < l0.length := (List.getElem?_eq_some_iff.1 hx).1
   obtain ⟨ad', e, hc⟩ := HC.out.2.2 (by omega)
   cases e
   obtain ⟨c, hc1, hc2, hc3⟩ := hc j x hx
   have hc2' : c = [Value.int .i64 x] := hc2
   subst hc2'
   have := hc3 0 (.int .i64 x) rfl
   have e1 : (Kd.int .i64).sz = 1 := rfl
   simpa [e1] using this
  case qc3 => intro u hu; obtain ⟨x, _, rfl⟩ := List.mem_map.1 hu; rfl
  case qc4 => have := HL.out; unfold maxLen; omega
  case qc5 => have := HL.out; omega
  case qc6 => simp
  intro v' w1 hown hgrow hnil
  have HO := Aside0.mk hown
  have HG := Aside0.mk hgrow
  clear hown hgrow hnil
  go_wp2
  go_ret
  refine ⟨v', rfl, Kd.R_of_own (by simpa [encs] using HO.out) (fun _ _ => trivial), ?_⟩
  exact ((Below.refl _ w).alloc (Nat.le_refl _) _).grown HG.out (by simp) (by intro k hk; simp [Value.ownBlock] at hk; omega)
end Go.Proofs.Ytiimiogpiflkdaa.A
end

section
namespace Go.Proofs.Ytiimiogpiflkdaa.A
open Go.RowKit Go.Proofs.YtiimiogpiflkdaaW.PrintWords Go.Proofs.YtiimiogpiflkdaaW.PrintLast Go.Proofs.YtiimiogpiflkdaaW.PrintMore
attribute [local go_sem] max2_int min2_int max_two min_two max_three min_three max_four min_four   -- for this text's walks alone
set_option linter.unusedVariables false
set_option linter.unusedSimpArgs false
def impl_cloneTeams.l0 : Nat → List (S61) → List (S61) → Int → Int → Option ((List (S61)))
  | 0, _, _, _, _ => none
  | k + 1, x3, x7, x8, x9 => if x9 < x8 then (if 0 ≤ x9 then (if x9 < (x7.length : Int) then ((slices_Clone_int_int.f ((rd_T61 x7 x9).f5)).bind fun t193 => (if x3.length < 2199023255552 then (impl_cloneTeams.l0 k (x3 ++ [(⟨(rd_T61 x7 x9).f0, (rd_T61 x7 x9).f1, (rd_T61 x7 x9).f2, (rd_T61 x7 x9).f3, (rd_T61 x7 x9).f4, t193⟩ : S61)]) x7 x8 (wrap64 (x9 + 1))) else (none))) else (none)) else (none)) else (some x3)
def impl_cloneTeams.f (k : Nat) (l0 : List (S61)) : Option ((List (S61))) := impl_cloneTeams.l0 k (([] : List (S61))) l0 (l0.length : Int) 0
set_option maxHeartbeats 8000000 in
set_option maxRecDepth 100000 in
theorem impl_cloneTeams.calls (k : Nat) (A0 : Option Addr) (c0 : Nat) (l0 : List (S61)) (r : List (S61)) (w : World) (hr0 : Kd.C k61 w A0 l0.length l0) (hc0 : l0.length ≤ c0) (h : impl_cloneTeams.f k l0 = some r) :
  Calls Try.prog 75 #[.slice A0 l0.length c0] w fun e w' => ∃ v0_ : Value, e = .returned (v0_) ∧ Kd.S k61 61 w' w.heap.size (fun _ => True) v0_ r ∧ Below w.heap.size w w' := by
 have hu61 := Try.underlying61
 have HR0 := Aside0.mk hr0
 have HC0 := Aside0.mk hc0
 clear hr0 hc0
 have HB := Aside0.mk (Below.refl w.heap.size w)
 have H : (impl_cloneTeams.l0 k (([] : List (S61))) l0 (l0.length : Int) 0) = some r := h
 clear h
 obtain ⟨y188, hy188⟩ : ∃ y_ : List (S61), y_ = (([] : List (S61))) := ⟨_, rfl⟩
 replace H : (impl_cloneTeams.l0 k y188 l0 (l0.length : Int) 0) = some r := by first | (rw [hy188]; with_reducible exact H) | (have H2_ := (Option.bind_some _ _).symm.trans H; rw [hy188]; with_reducible exact H2_) | (have H2_ := (Option.bind_some _ _).symm.trans H; with_reducible exact H2_) | with_reducible exact H | (rw [hy188]; exact H) | exact H
 have Ny188 := Aside0.mk hy188
 clear hy188
 have H' := Aside0.mk H
 clear H
 go_enter Try.func75, Try.ntmps75
 go_wp2_with (first | ((with_reducible refine gate_dst (N := 6) rfl ?_); refine Kd.S_lit k61 _ 61 ?hg (N := 6) ?hd (xs := ([] : List (S61))) (inner := []) (ok := fun _ => True) (okp := fun _ => True) ?hr ?hp (fun _ hk => hk) trivial (Below.refl _ _) (Nat.le_refl _) (by simp) ?_; (case hd => rfl); (case hg => rfl); (case hr => first | (go_simp; done) | (go_simp; rfl)); (case hp => exact (Reps.none _ _)); intro v189 w2 ho3 hb hg_ hnew_; clear hg_ hnew_; (first | rw [← Ny188.out] at ho3 | (simp only [Int.reduceToNat] at ho3; rw [← Ny188.out] at ho3)); have n0_ := Aside0.mk (Kd.S_lower ho3 (below_size (by repeat (first | (with_reducible first | exact HB.out | apply below_alloc | apply pw_below_drewN | apply below_drew1) | exact HB.out)))); have n1_ := Aside0.mk (below_step (by repeat (first | (with_reducible first | exact HB.out | apply below_alloc | apply pw_below_drewN | apply below_drew1) | exact HB.out)) hb); clear HB; have HO190 := n0_; have HB := n1_; clear n0_ n1_; clear hb ho3))
 go_loopg [3, 9] k (fun kq v3 v9 w' => ∃ (x3_1 : List (S61)) (x9_1 : Int), v9 = .int .i64 x9_1 ∧ Aside0 (impl_cloneTeams.l0 kq x3_1 l0 (l0.length : Int) x9_1 = some r) ∧ Aside0 (kq ≤ k) ∧ Aside0 (Kd.S k61 61 w' w.heap.size (fun _ => True) v3 x3_1) ∧ Aside0 (Below w.heap.size w w'))
 case atStart => exact ⟨(y188), (0), (by first | rfl | (simp; done) | (simp [*]; done)), H', ⟨Nat.le_refl _⟩, ⟨by (with_reducible repeat (first | apply Kd.S_alloc | apply Kd.S_drewN | apply Kd.S_drew)); exact HO190.out⟩, ⟨by repeat (first | (with_reducible first | exact HB.out | apply below_alloc | apply pw_below_drewN | apply below_drew1) | exact HB.out)⟩⟩
 case round =>
  clear H'
  try clear p2
  obtain ⟨x3_1, x9_1, rfl, HA, HK1, HO_3, HB⟩ := hrel
  cases gk with
  | zero => exact absurd HA.out (by simp [impl_cloneTeams.l0])
  | succ k1 =>
   have H := HA.out
   clear HA
   simp only [impl_cloneTeams.l0] at H
   by_cases c4 : x9_1 < (l0.length : Int)
   ·
    rw [if_pos c4] at H
    have c4b0 : decide (x9_1 < (l0.length : Int)) = true := decide_eq_true c4
    clear c4
    by_cases c5 : 0 ≤ x9_1
    ·
     rw [if_pos c5] at H
     have c5b0 : decide (0 ≤ x9_1) = true := decide_eq_true c5
     clear c5
     by_cases c6 : x9_1 < (l0.length : Int)
     ·
      rw [if_pos c6] at H
      have c6b0 : decide (x9_1 < (l0.length : Int)) = true := decide_eq_true c6
      clear c6
      replace H := Option.bind_eq_some_iff.mp H
      obtain ⟨t193, A70, H⟩ := H
      replace H : (if x3_1.length < 2199023255552 then (impl_cloneTeams.l0 k1 (x3_1 ++ [(⟨(rd_T61 l0 x9_1).f0, (rd_T61 l0 x9_1).f1, (rd_T61 l0 x9_1).f2, (rd_T61 l0 x9_1).f3, (rd_T61 l0 x9_1).f4, t193⟩ : S61)]) l0 (l0.length : Int) (wrap64 (x9_1 + 1))) else (none)) = some r := H
      have A7 := Aside0.mk A70
      clear A70
      by_cases c8 : x3_1.length < 2199023255552
      ·
       rw [if_pos c8] at H
       have LMc8 := Aside0.mk c8
       clear c8
       obtain ⟨y196, hy196⟩ : ∃ y_ : List (S61), y_ = (x3_1 ++ [(⟨(rd_T61 l0 x9_1).f0, (rd_T61 l0 x9_1).f1, (rd_T61 l0 x9_1).f2, (rd_T61 l0 x9_1).f3, (rd_T61 l0 x9_1).f4, t193⟩ : S61)]) := ⟨_, rfl⟩
       replace H : (impl_cloneTeams.l0 k1 y196 l0 (l0.length : Int) (wrap64 (x9_1 + 1))) = some r := by first | (rw [hy196]; with_reducible exact H) | (have H2_ := (Option.bind_some _ _).symm.trans H; rw [hy196]; with_reducible exact H2_) | (have H2_ := (Option.bind_some _ _).symm.trans H; with_reducible exact H2_) | with_reducible exact H | (rw [hy196]; exact H) | exact H
       have Ny196 := Aside0.mk hy196
       clear hy196
       have H' := Aside0.mk H
       clear H
       have p191 : 0 ≤ (x9_1 : Int) := of_decide_eq_true (by first | (with_reducible assumption) | assumption)
       have q191 : x9_1 < (l0.length : Int) := of_decide_eq_true (by first | (with_reducible assumption) | assumption)
       obtain ⟨ad191, A191_5, c191_5, e191, hx191_0, hx191_1, hx191_2, hx191_3, hx191_4, hx191_5, hl191_5, hi191_5⟩ := at_T61 HR0.out x9_1 p191 q191
       cases e191
       replace hx191_0 := (HB.out.cell (World.block_lt_of_cell? w _ hx191_0)).trans hx191_0
       replace hx191_1 := (HB.out.cell (World.block_lt_of_cell? w _ hx191_1)).trans hx191_1
       replace hx191_2 := (HB.out.cell (World.block_lt_of_cell? w _ hx191_2)).trans hx191_2
       replace hx191_3 := (HB.out.cell (World.block_lt_of_cell? w _ hx191_3)).trans hx191_3
       replace hx191_4 := (HB.out.cell (World.block_lt_of_cell? w _ hx191_4)).trans hx191_4
       replace hx191_5 := (HB.out.cell (World.block_lt_of_cell? w _ hx191_5)).trans hx191_5
       have HR191_5 := Aside0.mk hi191_5
       have HC191_5 := Aside0.mk hl191_5
       clear hi191_5 hl191_5
       replace p191 := eq_true p191
       replace q191 := eq_true q191
       go_wp2_with (first | ((with_reducible refine gate_dst (N := 5) rfl ?_); refine box_event ?hg (N := 5) ?hd (cs := #[.int .i64 0, .int .i64 0, .int .i64 0, .int .i64 0, .int .i64 0, .slice none 0 0]) (t := 61) ?hr ?_; (case hd => rfl); (case hg => rfl); (case hr => first | (go_simp; done) | (go_simp; rfl)); intro gb192 hg w9 hbox hb; have n0_ := Aside0.mk (Kd.S_below (Kd.S_elderB (by (with_reducible repeat (first | apply Kd.S_alloc | apply Kd.S_drewN | apply Kd.S_drew)); exact HO_3.out) gb192 (Nat.le_of_eq hg.symm)) hb); have n1_ := Aside0.mk (below_step (by repeat (first | (with_reducible first | exact HB.out | apply below_alloc | apply pw_below_drewN | apply below_drew1) | exact HB.out)) hb); have n2_ := Aside0.mk (hbox); have n3_ := Aside0.mk ((by rw [hg]; exact (below_size (by repeat (first | (with_reducible first | exact HB.out | apply below_alloc | apply pw_below_drewN | apply below_drew1) | exact HB.out))) : w.heap.size ≤ gb192)); have n4_ := Aside0.mk ((by rw [hg]; exact (below_size (by repeat (first | (with_reducible first | exact HB.out | apply below_alloc | apply pw_below_drewN | apply below_drew1) | exact HB.out))) : w.heap.size ≤ gb192)); clear HO_3; clear HB; have HO_3 := n0_; have HB := n1_; have BK192 := n2_; have GW192 := n3_; have GE192 := n4_; clear n0_ n1_ n2_ n3_ n4_; clear hb hbox hg; have hcz10_0 : w9.cell? ⟨gb192, 0, none⟩ = some (.int .i64 0) := (blk_cell BK192.out 0).trans rfl; have hcz10_1 : w9.cell? ⟨gb192, 1, none⟩ = some (.int .i64 0) := (blk_cell BK192.out 1).trans rfl; have hcz10_2 : w9.cell? ⟨gb192, 2, none⟩ = some (.int .i64 0) := (blk_cell BK192.out 2).trans rfl; have hcz10_3 : w9.cell? ⟨gb192, 3, none⟩ = some (.int .i64 0) := (blk_cell BK192.out 3).trans rfl; have hcz10_4 : w9.cell? ⟨gb192, 4, none⟩ = some (.int .i64 0) := (blk_cell BK192.out 4).trans rfl; have hcz10_5 : w9.cell? ⟨gb192, 5, none⟩ = some (.slice none 0 0) := (blk_cell BK192.out 5).trans rfl; have hfz10_0 := blk_frozen BK192.out 0; have hfz10_1 := blk_frozen BK192.out 1; have hfz10_2 := blk_frozen BK192.out 2; have hfz10_3 := blk_frozen BK192.out 3; have hfz10_4 := blk_frozen BK192.out 4; have hfz10_5 := blk_frozen BK192.out 5) | ((with_reducible refine gate_callee (f := 88) rfl ?_); refine goesL_ (some 15) rfl rfl Try.func88 (by kernel_rfl) rfl #[.slice A191_5 ((rd_T61 l0 x9_1).f5).length c191_5] rfl (by (try simp only [List.map_toArray, List.map_cons, List.map_nil]); first | done | rfl | (simp only [List.length_drop, List.length_take]; rfl)) ?_; (with_reducible refine (slices_Clone_int_int.calls _ _ ((rd_T61 l0 x9_1).f5) t193 _ ?side1 ?side2 A7.out).mono ?_); (case side1 => exact Kd.C_below HR191_5.out (by repeat (first | (with_reducible first | exact HB.out | apply below_alloc | apply pw_below_drewN | apply below_drew1 | refine below_set ?_ GE192.out) | exact HB.out))); (case side2 => exact HC191_5.out); rintro e w11 ⟨v194, rfl, ho0, hb⟩; refine ⟨_, rfl, ?_⟩; have n0_ := Aside0.mk (Kd.S_elder' (by (with_reducible repeat (first | apply Kd.S_alloc | apply Kd.S_drewN | apply Kd.S_drew)); exact (Kd.S_mono (Kd.S_far (p := ⟨gb192, 5, none⟩) (Kd.S_far (p := ⟨gb192, 4, none⟩) (Kd.S_far (p := ⟨gb192, 3, none⟩) (Kd.S_far (p := ⟨gb192, 2, none⟩) (Kd.S_far (p := ⟨gb192, 1, none⟩) (Kd.S_far (p := ⟨gb192, 0, none⟩) (Kd.S_mono HO_3.out (fun k_ hk => (⟨hk, hk.2⟩ : _ ∧ k_ ≠ gb192))) (fun _ hk => hk.2) (.int .i64 ((rd_T61 l0 x9_1).f0))) (fun _ hk => hk.2) (.int .i64 ((rd_T61 l0 x9_1).f1))) (fun _ hk => hk.2) (.int .i64 ((rd_T61 l0 x9_1).f2))) (fun _ hk => hk.2) (.int .i64 ((rd_T61 l0 x9_1).f3))) (fun _ hk => hk.2) (.int .i64 ((rd_T61 l0 x9_1).f4))) (fun _ hk => hk.2) (.slice A191_5 ((rd_T61 l0 x9_1).f5).length c191_5)) (fun _ h_ => h_.1))) (Kd.R_base ho0) hb); have n1_ := Aside0.mk (Kd.R_lower ho0 (below_size (by repeat (first | (with_reducible first | exact HB.out | apply below_alloc | apply pw_below_drewN | apply below_drew1 | refine below_set ?_ GE192.out) | exact HB.out)))); have n2_ := Aside0.mk (blk_below (g := gb192) (o := .cells #[.int .i64 ((rd_T61 l0 x9_1).f0), .int .i64 ((rd_T61 l0 x9_1).f1), .int .i64 ((rd_T61 l0 x9_1).f2), .int .i64 ((rd_T61 l0 x9_1).f3), .int .i64 ((rd_T61 l0 x9_1).f4), .slice A191_5 ((rd_T61 l0 x9_1).f5).length c191_5] 61 (0, 0)) (by (with_reducible repeat (first | refine blk_drewN ?_ _ | refine blk_drew ?_ | refine blk_alloc ?_ _)); refine blk_put (cs := #[.int .i64 ((rd_T61 l0 x9_1).f0), .int .i64 ((rd_T61 l0 x9_1).f1), .int .i64 ((rd_T61 l0 x9_1).f2), .int .i64 ((rd_T61 l0 x9_1).f3), .int .i64 ((rd_T61 l0 x9_1).f4), .slice none 0 0]) ?_ 5 _ rfl; (with_reducible repeat (first | refine blk_drewN ?_ _ | refine blk_drew ?_ | refine blk_alloc ?_ _)); refine blk_put (cs := #[.int .i64 ((rd_T61 l0 x9_1).f0), .int .i64 ((rd_T61 l0 x9_1).f1), .int .i64 ((rd_T61 l0 x9_1).f2), .int .i64 ((rd_T61 l0 x9_1).f3), .int .i64 0, .slice none 0 0]) ?_ 4 _ rfl; (with_reducible repeat (first | refine blk_drewN ?_ _ | refine blk_drew ?_ | refine blk_alloc ?_ _)); refine blk_put (cs := #[.int .i64 ((rd_T61 l0 x9_1).f0), .int .i64 ((rd_T61 l0 x9_1).f1), .int .i64 ((rd_T61 l0 x9_1).f2), .int .i64 0, .int .i64 0, .slice none 0 0]) ?_ 3 _ rfl; (with_reducible repeat (first | refine blk_drewN ?_ _ | refine blk_drew ?_ | refine blk_alloc ?_ _)); refine blk_put (cs := #[.int .i64 ((rd_T61 l0 x9_1).f0), .int .i64 ((rd_T61 l0 x9_1).f1), .int .i64 0, .int .i64 0, .int .i64 0, .slice none 0 0]) ?_ 2 _ rfl; (with_reducible repeat (first | refine blk_drewN ?_ _ | refine blk_drew ?_ | refine blk_alloc ?_ _)); refine blk_put (cs := #[.int .i64 ((rd_T61 l0 x9_1).f0), .int .i64 0, .int .i64 0, .int .i64 0, .int .i64 0, .slice none 0 0]) ?_ 1 _ rfl; (with_reducible repeat (first | refine blk_drewN ?_ _ | refine blk_drew ?_ | refine blk_alloc ?_ _)); refine blk_put (cs := #[.int .i64 0, .int .i64 0, .int .i64 0, .int .i64 0, .int .i64 0, .slice none 0 0]) ?_ 0 _ rfl; (with_reducible repeat (first | refine blk_drewN ?_ _ | refine blk_drew ?_ | refine blk_alloc ?_ _)); exact BK192.out) hb); have n3_ := Aside0.mk (below_step (by repeat (first | (with_reducible first | exact HB.out | apply below_alloc | apply pw_below_drewN | apply below_drew1 | refine below_set ?_ GE192.out) | exact HB.out)) hb); clear HO_3; clear BK192; clear HB; have HO_3 := n0_; have HO195 := n1_; have BK192 := n2_; have HB := n3_; clear n0_ n1_ n2_ n3_; (try clear hb); (try clear hb2); (try clear hk); (try clear hi); (try clear ho0); obtain ⟨Ao12, co12, eo12⟩ := Kd.R_slice HO195.out; subst eo12; have hcz13_0 : w11.cell? ⟨gb192, 0, none⟩ = some (.int .i64 ((rd_T61 l0 x9_1).f0)) := (blk_cell BK192.out 0).trans rfl; have hcz13_1 : w11.cell? ⟨gb192, 1, none⟩ = some (.int .i64 ((rd_T61 l0 x9_1).f1)) := (blk_cell BK192.out 1).trans rfl; have hcz13_2 : w11.cell? ⟨gb192, 2, none⟩ = some (.int .i64 ((rd_T61 l0 x9_1).f2)) := (blk_cell BK192.out 2).trans rfl; have hcz13_3 : w11.cell? ⟨gb192, 3, none⟩ = some (.int .i64 ((rd_T61 l0 x9_1).f3)) := (blk_cell BK192.out 3).trans rfl; have hcz13_4 : w11.cell? ⟨gb192, 4, none⟩ = some (.int .i64 ((rd_T61 l0 x9_1).f4)) := (blk_cell BK192.out 4).trans rfl; have hcz13_5 : w11.cell? ⟨gb192, 5, none⟩ = some (.slice A191_5 ((rd_T61 l0 x9_1).f5).length c191_5) := (blk_cell BK192.out 5).trans rfl; have hfz13_0 := blk_frozen BK192.out 0; have hfz13_1 := blk_frozen BK192.out 1; have hfz13_2 := blk_frozen BK192.out 2; have hfz13_3 := blk_frozen BK192.out 3; have hfz13_4 := blk_frozen BK192.out 4; have hfz13_5 := blk_frozen BK192.out 5) | ((with_reducible refine gate_store (t := 41) (p := 16) rfl ?_); refine store_event (t := 41) (p := 16) (v := ?vo_w14) (w1 := (w11.setCell ⟨gb192, 5, none⟩ (.slice Ao12 t193.length co12))) ?hg ?ho ?hn ?hr ?_; (case ho => rfl); (case hg => rfl); (case hn => rfl); (case hr => first | (go_simp; done) | (go_simp; rfl)); intro w14 hw; have n0_ : Aside0 (Kd.S k61 61 w14 w.heap.size (fun k_ => some k_ ≠ (.slice Ao12 t193.length co12 : Value).ownBlock ∧ k_ ≠ gb192) u3 x3_1) := ⟨(by rw [hw]; exact (by (with_reducible repeat (first | apply Kd.S_alloc | apply Kd.S_drewN | apply Kd.S_drew)); exact Kd.S_mono (Kd.S_far (p := ⟨gb192, 5, none⟩) (Kd.S_mono HO_3.out (fun k_ hk => (⟨hk, hk.1.2⟩ : _ ∧ k_ ≠ gb192))) (fun _ hk => hk.2) (.slice Ao12 t193.length co12)) (fun _ hk => ⟨hk.1.2, hk.1.1.2⟩)))⟩; have n1_ : Aside0 (Kd.R (Kd.int .i64) 3 w14 w.heap.size (fun _ => True) (.slice Ao12 t193.length co12) t193) := ⟨(by rw [hw]; exact (by (with_reducible repeat (first | apply Kd.R_alloc | apply Kd.R_drewN | apply Kd.R_drew)); exact Kd.R_mono (Kd.R_far (p := ⟨gb192, 5, none⟩) (Kd.R_types HO195.out BK192.out (by decide)) (fun _ hk => hk.2) (.slice Ao12 t193.length co12)) (fun _ hk => trivial)))⟩; have n2_ : Aside0 (w14.heap[gb192]? = some (.cells #[.int .i64 ((rd_T61 l0 x9_1).f0), .int .i64 ((rd_T61 l0 x9_1).f1), .int .i64 ((rd_T61 l0 x9_1).f2), .int .i64 ((rd_T61 l0 x9_1).f3), .int .i64 ((rd_T61 l0 x9_1).f4), .slice Ao12 t193.length co12] 61 (0, 0))) := ⟨(by rw [hw]; exact (by (with_reducible repeat (first | refine blk_drewN ?_ _ | refine blk_drew ?_ | refine blk_alloc ?_ _)); refine blk_put (cs := #[.int .i64 ((rd_T61 l0 x9_1).f0), .int .i64 ((rd_T61 l0 x9_1).f1), .int .i64 ((rd_T61 l0 x9_1).f2), .int .i64 ((rd_T61 l0 x9_1).f3), .int .i64 ((rd_T61 l0 x9_1).f4), .slice A191_5 ((rd_T61 l0 x9_1).f5).length c191_5]) ?_ 5 _ rfl; (with_reducible repeat (first | refine blk_drewN ?_ _ | refine blk_drew ?_ | refine blk_alloc ?_ _)); exact BK192.out))⟩; have n3_ : Aside0 (Below w.heap.size w w14) := ⟨(by rw [hw]; exact (by repeat (first | (with_reducible first | exact HB.out | apply below_alloc | apply pw_below_drewN | apply below_drew1 | refine below_set ?_ GE192.out) | exact HB.out)))⟩; clear hw; clear HO_3; clear HO195; clear BK192; clear HB; have HO_3 := n0_; have HO195 := n1_; have BK192 := n2_; have HB := n3_; clear n0_ n1_ n2_ n3_; have hcz15_0 : w14.cell? ⟨gb192, 0, none⟩ = some (.int .i64 ((rd_T61 l0 x9_1).f0)) := (blk_cell BK192.out 0).trans rfl; have hcz15_1 : w14.cell? ⟨gb192, 1, none⟩ = some (.int .i64 ((rd_T61 l0 x9_1).f1)) := (blk_cell BK192.out 1).trans rfl; have hcz15_2 : w14.cell? ⟨gb192, 2, none⟩ = some (.int .i64 ((rd_T61 l0 x9_1).f2)) := (blk_cell BK192.out 2).trans rfl; have hcz15_3 : w14.cell? ⟨gb192, 3, none⟩ = some (.int .i64 ((rd_T61 l0 x9_1).f3)) := (blk_cell BK192.out 3).trans rfl; have hcz15_4 : w14.cell? ⟨gb192, 4, none⟩ = some (.int .i64 ((rd_T61 l0 x9_1).f4)) := (blk_cell BK192.out 4).trans rfl; have hcz15_5 : w14.cell? ⟨gb192, 5, none⟩ = some (.slice Ao12 t193.length co12) := (blk_cell BK192.out 5).trans rfl; have hfz15_0 := blk_frozen BK192.out 0; have hfz15_1 := blk_frozen BK192.out 1; have hfz15_2 := blk_frozen BK192.out 2; have hfz15_3 := blk_frozen BK192.out 3; have hfz15_4 := blk_frozen BK192.out 4; have hfz15_5 := blk_frozen BK192.out 5) | ((with_reducible refine gate_builtin (b := .append) (xs := #[.tmp 17, .tmp 19]) rfl ?_); at_builtin; refine Kd.S_append k61 (w0 := w) w.heap.size rfl (.tmp 17) (.tmp 19) 25 61 (.agg #[(.int .i64 0), (.int .i64 0), (.int .i64 0), (.int .i64 0), (.int .i64 0), (.slice none 0 0)]) 64 rfl Try.underlying25 info61 rfl (by decide) (by omega) u3 x3_1 (⟨(rd_T61 l0 x9_1).f0, (rd_T61 l0 x9_1).f1, (rd_T61 l0 x9_1).f2, (rd_T61 l0 x9_1).f3, (rd_T61 l0 x9_1).f4, t193⟩ : S61) [.int .i64 ((rd_T61 l0 x9_1).f0), .int .i64 ((rd_T61 l0 x9_1).f1), .int .i64 ((rd_T61 l0 x9_1).f2), .int .i64 ((rd_T61 l0 x9_1).f3), .int .i64 ((rd_T61 l0 x9_1).f4), .slice Ao12 t193.length co12] (fun k_ => k_ ≠ gb192) (fun k_ => some k_ = (.slice Ao12 t193.length co12 : Value).ownBlock) rfl rfl ?aP (fun k_ hk_ => ((Kd.R_mono (ok' := fun k_ => ((fun k_ => k_ ≠ gb192)) k_ ∧ some k_ ≠ (u3 : Value).ownBlock) (Kd.R_types (Kd.R_apart' (HO195.out) (Kd.S_typed HO_3.out) (by decide)) BK192.out (by decide)) (fun k_ hk => ⟨hk.2, hk.1.2⟩))).1 k_ hk_.symm) ?aF ?aO ?aB ?aS ?aL ?_; (case aP => exact k61_mkM _ _ _ (⟨(rd_T61 l0 x9_1).f0, (rd_T61 l0 x9_1).f1, (rd_T61 l0 x9_1).f2, (rd_T61 l0 x9_1).f3, (rd_T61 l0 x9_1).f4, t193⟩ : S61) (Kd.R_mono (Kd.R_tight rfl (Kd.R_mono (ok' := fun k_ => ((fun k_ => k_ ≠ gb192)) k_ ∧ some k_ ≠ (u3 : Value).ownBlock) (Kd.R_types (Kd.R_apart' (HO195.out) (Kd.S_typed HO_3.out) (by decide)) BK192.out (by decide)) (fun k_ hk => ⟨hk.2, hk.1.2⟩))) (fun _ h_ => h_))); (case aB => exact (by repeat (first | (with_reducible first | exact HB.out | apply below_alloc | apply pw_below_drewN | apply below_drew1 | refine below_set ?_ GE192.out) | exact HB.out))); (case aF => exact (fun k_ hk => Kd.freshB (g := gb192) (o := .cells #[.int .i64 ((rd_T61 l0 x9_1).f0), .int .i64 ((rd_T61 l0 x9_1).f1), .int .i64 ((rd_T61 l0 x9_1).f2), .int .i64 ((rd_T61 l0 x9_1).f3), .int .i64 ((rd_T61 l0 x9_1).f4), .slice Ao12 t193.length co12] 61 (0, 0)) (by (with_reducible repeat (first | refine blk_drewN ?_ _ | refine blk_drew ?_ | refine blk_alloc ?_ _)); exact BK192.out) k_ hk)); (case aO => exact (by (with_reducible repeat (first | apply Kd.S_alloc | apply Kd.S_drewN | apply Kd.S_drew)); exact Kd.S_mono HO_3.out (fun k_ hk => ⟨hk.2, fun e_ => hk.1 e_⟩))); (case aS => exact (below_size (by repeat (first | (with_reducible first | exact HB.out | apply below_alloc | apply pw_below_drewN | apply below_drew1 | refine below_set ?_ GE192.out) | exact HB.out)))); (case aL => have := LMc8.out; omega); intro v197 w16 ho hb hg hat; rw [← Ny196.out] at ho; have n0_ := Aside0.mk (blk_grown (g := gb192) (o := .cells #[.int .i64 ((rd_T61 l0 x9_1).f0), .int .i64 ((rd_T61 l0 x9_1).f1), .int .i64 ((rd_T61 l0 x9_1).f2), .int .i64 ((rd_T61 l0 x9_1).f3), .int .i64 ((rd_T61 l0 x9_1).f4), .slice Ao12 t193.length co12] 61 (0, 0)) (by (with_reducible repeat (first | refine blk_drewN ?_ _ | refine blk_drew ?_ | refine blk_alloc ?_ _)); exact BK192.out) hg (Kd.S_away HO_3.out (fun _ hk => hk.2))); have n1_ := Aside0.mk (hb); have n2_ := Aside0.mk (ho); clear BK192; clear HB; clear HO_3; clear HO195; have BK192 := n0_; have HB := n1_; have HO198 := n2_; clear n0_ n1_ n2_; clear ho hb hg hat))
       go_roundg k1
       case measure => have := HK1.out; omega
       case rel => exact ⟨(y196), (wrap64 (x9_1 + 1)), (by first | rfl | (simp; done) | (simp [*]; done)), H', ⟨by have := HK1.out; omega⟩, ⟨by (with_reducible repeat (first | apply Kd.S_alloc | apply Kd.S_drewN | apply Kd.S_drew)); exact Kd.S_mono HO198.out (fun _ hk => trivial)⟩, ⟨by repeat (first | (with_reducible first | exact HB.out | apply below_alloc | apply pw_below_drewN | apply below_drew1 | refine below_set ?_ GE192.out) | exact HB.out)⟩⟩
      ·
       rw [if_neg c8] at H
       exact absurd H (by simp)
     ·
      rw [if_neg c6] at H
      exact absurd H (by simp)
    ·
     rw [if_neg c5] at H
     exact absurd H (by simp)
   ·
    rw [if_neg c4] at H
    have c4b0 : decide (x9_1 < (l0.length : Int)) = false := decide_eq_false c4
    clear c4
    obtain rfl := Option.some.inj H
    go_wp2
    go_ret
    exact ⟨_, by first | rfl | (simp [errW_none, errW_some] <;> rfl) | (simp [*, errW_none, errW_some] <;> rfl), by (with_reducible repeat (first | apply Kd.S_alloc | apply Kd.S_drewN | apply Kd.S_drew)); exact HO_3.out, by repeat (first | (with_reducible first | exact HB.out | apply below_alloc | apply pw_below_drewN | apply below_drew1) | exact HB.out)⟩
end Go.Proofs.Ytiimiogpiflkdaa.A
end
