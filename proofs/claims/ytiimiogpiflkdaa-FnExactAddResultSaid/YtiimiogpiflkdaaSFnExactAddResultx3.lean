/- What the row FnExactAddResult rests on, put together: A25, A26, A27, LHMark, A10, LMark, LHMarkX, LHMarkF, LHMarkT, LHLFnExactAddResult, LOpen, LTeam2, A72, LTeam3i, A60, A61, LCont, A33, LHas, A34, A62, LMet, LSqz, A35, A63, LMay, Shelf, LHCmp, LHClo, LHSortT, LHCloT. No condition. -/
import Derived.Test.YtiimiogpiflkdaaSFnExactAddResultx1
import Derived.Test.YtiimiogpiflkdaaSFnExactAddResultx0
import Derived.Test.YtiimiogpiflkdaaSFnExactAddResultx2
import Derived.Deep.Slices
import Derived.Deep.Fields
import Derived.ChangeSame
import Derived.Lib.SmallJoins
import Derived.Shelf.SlGeneric
import Derived.Ground.NamesProg
import Derived.Ground.SlsfProg
import Derived.Shelf.SlSortCmp.SmallK
import Derived.Shelf.Small.Bits
import Derived.Test.YtiimiogpiflkdaaProg
import Derived.Shelf.Abstract
import Derived.StillTailTactics
section
namespace Go.Proofs.Ytiimiogpiflkdaa.A
open Go.RowKit Go.Proofs.YtiimiogpiflkdaaW.PrintWords Go.Proofs.YtiimiogpiflkdaaW.PrintLast Go.Proofs.YtiimiogpiflkdaaW.PrintMore
attribute [local go_sem] max2_int min2_int max_two min_two max_three min_three max_four min_four   -- for this text's walks alone
set_option linter.unusedVariables false
set_option linter.unusedSimpArgs false
mutual
def impl_AddResult.j0 : Nat → List (S61) → Int → Int → Int → Int → Int → List (S61) → Int → Int → Bool → Option ((List (S61)) × Bool)
  | 0, _, _, _, _, _, _, _, _, _, _ => none
  | k + 1, x0, x1, x2, x3, x4, x5, x14, x15, x16, x55 => if x55 = true then (some (x14, false)) else (if 0 ≤ x15 then (if x15 < (x14.length : Int) then (if ((rd_T61 x14 x15).f5).length < 17592186044416 then ((some (x14.set (x15 : Int).toNat (⟨(rd_T61 x14 x15).f0, (rd_T61 x14 x15).f1, (rd_T61 x14 x15).f2, (rd_T61 x14 x15).f3, (rd_T61 x14 x15).f4, (((rd_T61 x14 x15).f5) ++ [x2])⟩ : S61) : List (S61))).bind fun y212 => (if 0 ≤ x16 then (if x16 < (x14.length : Int) then (if ((rd_T61 y212 x16).f5).length < 17592186044416 then ((some (y212.set (x16 : Int).toNat (⟨(rd_T61 y212 x16).f0, (rd_T61 y212 x16).f1, (rd_T61 y212 x16).f2, (rd_T61 y212 x16).f3, (rd_T61 y212 x16).f4, (((rd_T61 y212 x16).f5) ++ [x1])⟩ : S61) : List (S61))).bind fun y217 => ((some (y217.set (x15 : Int).toNat (⟨(rd_T61 y217 x15).f0, (rd_T61 y217 x15).f1, (rd_T61 y217 x15).f2, (rd_T61 y217 x15).f3, wrap64 (((rd_T61 y217 x15).f4) + 1), (rd_T61 y217 x15).f5⟩ : S61) : List (S61))).bind fun y219 => (if x3 = 1 then (impl_AddResult.j1 k x0 x4 x5 (y219.set (x15 : Int).toNat (⟨(rd_T61 y219 x15).f0, (rd_T61 y219 x15).f1, wrap64 (((rd_T61 y219 x15).f2) + 1), (rd_T61 y219 x15).f3, (rd_T61 y219 x15).f4, (rd_T61 y219 x15).f5⟩ : S61)) x15 x16) else (impl_AddResult.j1 k x0 x4 x5 (y219.set (x16 : Int).toNat (⟨(rd_T61 y219 x16).f0, (rd_T61 y219 x16).f1, wrap64 (((rd_T61 y219 x16).f2) + 1), (rd_T61 y219 x16).f3, (rd_T61 y219 x16).f4, (rd_T61 y219 x16).f5⟩ : S61)) x15 x16)))) else (none)) else (none)) else (none))) else (none)) else (none)) else (none))
def impl_AddResult.j1 : Nat → List (S61) → Int → Int → List (S61) → Int → Int → Option ((List (S61)) × Bool)
  | 0, _, _, _, _, _, _ => none
  | k + 1, x0, x4, x5, x14, x15, x16 => if 0 ≤ x15 then (if x15 < (x14.length : Int) then ((some (x14.set (x15 : Int).toNat (⟨(rd_T61 x14 x15).f0, (rd_T61 x14 x15).f1, (rd_T61 x14 x15).f2, wrap64 (((rd_T61 x14 x15).f3) + x4), (rd_T61 x14 x15).f4, (rd_T61 x14 x15).f5⟩ : S61) : List (S61))).bind fun y225 => (if 0 ≤ x16 then (if x16 < (x14.length : Int) then ((some (y225.set (x16 : Int).toNat (⟨(rd_T61 y225 x16).f0, (rd_T61 y225 x16).f1, (rd_T61 y225 x16).f2, wrap64 (((rd_T61 y225 x16).f3) + x5), (rd_T61 y225 x16).f4, (rd_T61 y225 x16).f5⟩ : S61) : List (S61))).bind fun y227 => ((impl_AreTeams.f k y227).bind fun t228 => (if t228 = true then (some (y227, true)) else ((impl_cloneTeams.f k x0).bind fun t229 => (some (t229, false)))))) else (none)) else (none))) else (none)) else (none)
end
def impl_AddResult.f (k : Nat) (l0 : List (S61)) (a1 : Int) (a2 : Int) (a3 : Int) (a4 : Int) (a5 : Int) : Option ((List (S61)) × Bool) := (impl_cloneTeams.f k l0).bind fun t199 => ((impl_FindTeam.f l0 a1).bind fun t202 => ((impl_FindTeam.f l0 a2).bind fun t203 => ((impl_AreTeams.f k l0).bind fun t204 => (if t204 = true then (if t202 < 0 then (impl_AddResult.j0 k l0 a1 a2 a3 a4 a5 t199 t202 t203 true) else (if t203 < 0 then (impl_AddResult.j0 k l0 a1 a2 a3 a4 a5 t199 t202 t203 true) else (if t202 = t203 then (impl_AddResult.j0 k l0 a1 a2 a3 a4 a5 t199 t202 t203 true) else ((impl_InRange.f a3 1 2).bind fun t205 => (if t205 = true then ((impl_InRange.f a4 0 1000).bind fun t206 => (if t206 = true then ((impl_InRange.f a5 0 1000).bind fun t207 => (impl_AddResult.j0 k l0 a1 a2 a3 a4 a5 t199 t202 t203 (!t207))) else (impl_AddResult.j0 k l0 a1 a2 a3 a4 a5 t199 t202 t203 true))) else (impl_AddResult.j0 k l0 a1 a2 a3 a4 a5 t199 t202 t203 true)))))) else (impl_AddResult.j0 k l0 a1 a2 a3 a4 a5 t199 t202 t203 true)))))
set_option maxHeartbeats 8000000 in
set_option maxRecDepth 100000 in
theorem impl_AddResult.calls (k : Nat) (A0 : Option Addr) (c0 : Nat) (l0 : List (S61)) (a1 : Int) (a2 : Int) (a3 : Int) (a4 : Int) (a5 : Int) (r1 : List (S61)) (r2 : Bool) (w : World) (hr0 : Kd.C k61 w A0 l0.length l0) (hc0 : l0.length ≤ c0) (h : impl_AddResult.f k l0 a1 a2 a3 a4 a5 = some (r1, r2)) :
  Calls Try.prog 43 #[.slice A0 l0.length c0, .int .i64 a1, .int .i64 a2, .int .i64 a3, .int .i64 a4, .int .i64 a5] w fun e w' => ∃ v0_ : Value, e = .returned (.tuple #[v0_, .bool r2]) ∧ Kd.S k61 61 w' w.heap.size (fun _ => True) v0_ r1 ∧ Below w.heap.size w w' := by
 have HR0 := Aside0.mk hr0
 have HC0 := Aside0.mk hc0
 clear hr0 hc0
 have HB := Aside0.mk (Below.refl w.heap.size w)
 have H : ((impl_cloneTeams.f k l0).bind fun t199 => ((impl_FindTeam.f l0 a1).bind fun t202 => ((impl_FindTeam.f l0 a2).bind fun t203 => ((impl_AreTeams.f k l0).bind fun t204 => (if t204 = true then (if t202 < 0 then (impl_AddResult.j0 k l0 a1 a2 a3 a4 a5 t199 t202 t203 true) else (if t203 < 0 then (impl_AddResult.j0 k l0 a1 a2 a3 a4 a5 t199 t202 t203 true) else (if t202 = t203 then (impl_AddResult.j0 k l0 a1 a2 a3 a4 a5 t199 t202 t203 true) else ((impl_InRange.f a3 1 2).bind fun t205 => (if t205 = true then ((impl_InRange.f a4 0 1000).bind fun t206 => (if t206 = true then ((impl_InRange.f a5 0 1000).bind fun t207 => (impl_AddResult.j0 k l0 a1 a2 a3 a4 a5 t199 t202 t203 (!t207))) else (impl_AddResult.j0 k l0 a1 a2 a3 a4 a5 t199 t202 t203 true))) else (impl_AddResult.j0 k l0 a1 a2 a3 a4 a5 t199 t202 t203 true)))))) else (impl_AddResult.j0 k l0 a1 a2 a3 a4 a5 t199 t202 t203 true)))))) = some (r1, r2) := h
 clear h
 replace H := Option.bind_eq_some_iff.mp H
 obtain ⟨t199, A70, H⟩ := H
 replace H : ((impl_FindTeam.f l0 a1).bind fun t202 => ((impl_FindTeam.f l0 a2).bind fun t203 => ((impl_AreTeams.f k l0).bind fun t204 => (if t204 = true then (if t202 < 0 then (impl_AddResult.j0 k l0 a1 a2 a3 a4 a5 t199 t202 t203 true) else (if t203 < 0 then (impl_AddResult.j0 k l0 a1 a2 a3 a4 a5 t199 t202 t203 true) else (if t202 = t203 then (impl_AddResult.j0 k l0 a1 a2 a3 a4 a5 t199 t202 t203 true) else ((impl_InRange.f a3 1 2).bind fun t205 => (if t205 = true then ((impl_InRange.f a4 0 1000).bind fun t206 => (if t206 = true then ((impl_InRange.f a5 0 1000).bind fun t207 => (impl_AddResult.j0 k l0 a1 a2 a3 a4 a5 t199 t202 t203 (!t207))) else (impl_AddResult.j0 k l0 a1 a2 a3 a4 a5 t199 t202 t203 true))) else (impl_AddResult.j0 k l0 a1 a2 a3 a4 a5 t199 t202 t203 true)))))) else (impl_AddResult.j0 k l0 a1 a2 a3 a4 a5 t199 t202 t203 true))))) = some (r1, r2) := H
 have A7 := Aside0.mk A70
 clear A70
 replace H := Option.bind_eq_some_iff.mp H
 obtain ⟨t202, A80, H⟩ := H
 replace H : ((impl_FindTeam.f l0 a2).bind fun t203 => ((impl_AreTeams.f k l0).bind fun t204 => (if t204 = true then (if t202 < 0 then (impl_AddResult.j0 k l0 a1 a2 a3 a4 a5 t199 t202 t203 true) else (if t203 < 0 then (impl_AddResult.j0 k l0 a1 a2 a3 a4 a5 t199 t202 t203 true) else (if t202 = t203 then (impl_AddResult.j0 k l0 a1 a2 a3 a4 a5 t199 t202 t203 true) else ((impl_InRange.f a3 1 2).bind fun t205 => (if t205 = true then ((impl_InRange.f a4 0 1000).bind fun t206 => (if t206 = true then ((impl_InRange.f a5 0 1000).bind fun t207 => (impl_AddResult.j0 k l0 a1 a2 a3 a4 a5 t199 t202 t203 (!t207))) else (impl_AddResult.j0 k l0 a1 a2 a3 a4 a5 t199 t202 t203 true))) else (impl_AddResult.j0 k l0 a1 a2 a3 a4 a5 t199 t202 t203 true)))))) else (impl_AddResult.j0 k l0 a1 a2 a3 a4 a5 t199 t202 t203 true)))) = some (r1, r2) := H
 have A8 := Aside0.mk A80
 clear A80
 replace H := Option.bind_eq_some_iff.mp H
 obtain ⟨t203, A90, H⟩ := H
 replace H : ((impl_AreTeams.f k l0).bind fun t204 => (if t204 = true then (if t202 < 0 then (impl_AddResult.j0 k l0 a1 a2 a3 a4 a5 t199 t202 t203 true) else (if t203 < 0 then (impl_AddResult.j0 k l0 a1 a2 a3 a4 a5 t199 t202 t203 true) else (if t202 = t203 then (impl_AddResult.j0 k l0 a1 a2 a3 a4 a5 t199 t202 t203 true) else ((impl_InRange.f a3 1 2).bind fun t205 => (if t205 = true then ((impl_InRange.f a4 0 1000).bind fun t206 => (if t206 = true then ((impl_InRange.f a5 0 1000).bind fun t207 => (impl_AddResult.j0 k l0 a1 a2 a3 a4 a5 t199 t202 t203 (!t207))) else (impl_AddResult.j0 k l0 a1 a2 a3 a4 a5 t199 t202 t203 true))) else (impl_AddResult.j0 k l0 a1 a2 a3 a4 a5 t199 t202 t203 true)))))) else (impl_AddResult.j0 k l0 a1 a2 a3 a4 a5 t199 t202 t203 true))) = some (r1, r2) := H
 have A9 := Aside0.mk A90
 clear A90
 have HC10 := Aside0.mk H
 clear H
 go_enter Try.func43, Try.ntmps43
 go_upto_region 3 with (first | ((with_reducible refine gate_callee (f := 75) rfl ?_); refine goesL_ (some 18) rfl rfl Try.func75 (by kernel_rfl) rfl #[.slice A0 l0.length c0] rfl (by (try simp only [List.map_toArray, List.map_cons, List.map_nil]); first | done | rfl | (simp only [List.length_drop, List.length_take]; rfl)) ?_; (with_reducible refine (impl_cloneTeams.calls k _ _ l0 t199 _ ?side1 ?side2 A7.out).mono ?_); (case side1 => repeat (first | exact HR0.out | (with_reducible refine Kd.C_alloc ?_ _) | (with_reducible refine Kd.C_drewN ?_ _) | (with_reducible refine Kd.C_drew ?_))); (case side2 => exact HC0.out); rintro e w11 ⟨v200, rfl, ho0, hb⟩; refine ⟨_, rfl, ?_⟩; have n0_ := Aside0.mk (Kd.S_lower ho0 (below_size (by repeat (first | (with_reducible first | exact HB.out | apply below_alloc | apply pw_below_drewN | apply below_drew1) | exact HB.out)))); have n1_ := Aside0.mk (below_step (by repeat (first | (with_reducible first | exact HB.out | apply below_alloc | apply pw_below_drewN | apply below_drew1) | exact HB.out)) hb); clear HB; have HO201 := n0_; have HB := n1_; clear n0_ n1_; (try clear hb); (try clear hb2); (try clear hk); (try clear hi); (try clear ho0)) | ((with_reducible refine gate_callee (f := 18) rfl ?_); refine goesL_ (some 21) rfl rfl Try.func18 (by kernel_rfl) rfl #[.slice A0 l0.length c0, .int .i64 a1] rfl (by (try simp only [List.map_toArray, List.map_cons, List.map_nil]); first | done | rfl | (simp only [List.length_drop, List.length_take]; rfl)) ?_; (with_reducible refine (impl_FindTeam.calls _ _ l0 a1 t202 _ ?side1 ?side2 A8.out).mono ?_); (case side1 => repeat (first | exact (Kd.C_below HR0.out HB.out) | (with_reducible refine Kd.C_alloc ?_ _) | (with_reducible refine Kd.C_drewN ?_ _) | (with_reducible refine Kd.C_drew ?_))); (case side2 => exact HC0.out); rintro e w12 ⟨rfl, hb⟩; refine ⟨_, rfl, ?_⟩; have n0_ := Aside0.mk (Kd.S_below (by (with_reducible repeat (first | apply Kd.S_alloc | apply Kd.S_drewN | apply Kd.S_drew)); exact HO201.out) hb); have n1_ := Aside0.mk (below_step (by repeat (first | (with_reducible first | exact HB.out | apply below_alloc | apply pw_below_drewN | apply below_drew1) | exact HB.out)) hb); clear HO201; clear HB; have HO201 := n0_; have HB := n1_; clear n0_ n1_; (try clear hb); (try clear hb2); (try clear hk); (try clear hi)) | ((with_reducible refine gate_callee (f := 18) rfl ?_); refine goesL_ (some 24) rfl rfl Try.func18 (by kernel_rfl) rfl #[.slice A0 l0.length c0, .int .i64 a2] rfl (by (try simp only [List.map_toArray, List.map_cons, List.map_nil]); first | done | rfl | (simp only [List.length_drop, List.length_take]; rfl)) ?_; (with_reducible refine (impl_FindTeam.calls _ _ l0 a2 t203 _ ?side1 ?side2 A9.out).mono ?_); (case side1 => repeat (first | exact (Kd.C_below HR0.out HB.out) | (with_reducible refine Kd.C_alloc ?_ _) | (with_reducible refine Kd.C_drewN ?_ _) | (with_reducible refine Kd.C_drew ?_))); (case side2 => exact HC0.out); rintro e w13 ⟨rfl, hb⟩; refine ⟨_, rfl, ?_⟩; have n0_ := Aside0.mk (Kd.S_below (by (with_reducible repeat (first | apply Kd.S_alloc | apply Kd.S_drewN | apply Kd.S_drew)); exact HO201.out) hb); have n1_ := Aside0.mk (below_step (by repeat (first | (with_reducible first | exact HB.out | apply below_alloc | apply pw_below_drewN | apply below_drew1) | exact HB.out)) hb); clear HO201; clear HB; have HO201 := n0_; have HB := n1_; clear n0_ n1_; (try clear hb); (try clear hb2); (try clear hk); (try clear hi)))
 (try simp only [Act.put, List.setIfInBounds_toArray, List.set_cons_zero, List.set_cons_succ])
 go_cut [55] (fun v55 wc => ∃ (kq : Nat) (x55_9 : Bool), v55 = .bool x55_9 ∧ Aside0 (impl_AddResult.j0 kq l0 a1 a2 a3 a4 a5 t199 t202 t203 x55_9 = some (r1, r2)) ∧ Aside0 (kq ≤ k) ∧ Aside0 (Kd.S k61 61 wc w.heap.size (fun _ => True) v200 t199) ∧ Aside0 (Below w.heap.size w wc) ∧ Aside0 (x55_9 = false → ¬ t202 = t203))
 case first =>
  have H := HC10.out
  clear HC10
  replace H := Option.bind_eq_some_iff.mp H
  obtain ⟨t204, A140, H⟩ := H
  replace H : (if t204 = true then (if t202 < 0 then (impl_AddResult.j0 k l0 a1 a2 a3 a4 a5 t199 t202 t203 true) else (if t203 < 0 then (impl_AddResult.j0 k l0 a1 a2 a3 a4 a5 t199 t202 t203 true) else (if t202 = t203 then (impl_AddResult.j0 k l0 a1 a2 a3 a4 a5 t199 t202 t203 true) else ((impl_InRange.f a3 1 2).bind fun t205 => (if t205 = true then ((impl_InRange.f a4 0 1000).bind fun t206 => (if t206 = true then ((impl_InRange.f a5 0 1000).bind fun t207 => (impl_AddResult.j0 k l0 a1 a2 a3 a4 a5 t199 t202 t203 (!t207))) else (impl_AddResult.j0 k l0 a1 a2 a3 a4 a5 t199 t202 t203 true))) else (impl_AddResult.j0 k l0 a1 a2 a3 a4 a5 t199 t202 t203 true)))))) else (impl_AddResult.j0 k l0 a1 a2 a3 a4 a5 t199 t202 t203 true)) = some (r1, r2) := H
  have A14 := Aside0.mk A140
  clear A140
  by_cases c15 : t204 = true
  ·
   subst c15
   have H1 : (if t202 < 0 then (impl_AddResult.j0 k l0 a1 a2 a3 a4 a5 t199 t202 t203 true) else (if t203 < 0 then (impl_AddResult.j0 k l0 a1 a2 a3 a4 a5 t199 t202 t203 true) else (if t202 = t203 then (impl_AddResult.j0 k l0 a1 a2 a3 a4 a5 t199 t202 t203 true) else ((impl_InRange.f a3 1 2).bind fun t205 => (if t205 = true then ((impl_InRange.f a4 0 1000).bind fun t206 => (if t206 = true then ((impl_InRange.f a5 0 1000).bind fun t207 => (impl_AddResult.j0 k l0 a1 a2 a3 a4 a5 t199 t202 t203 (!t207))) else (impl_AddResult.j0 k l0 a1 a2 a3 a4 a5 t199 t202 t203 true))) else (impl_AddResult.j0 k l0 a1 a2 a3 a4 a5 t199 t202 t203 true)))))) = some (r1, r2) := by rw [if_pos rfl] at H; exact H
   clear H
   have H := H1
   clear H1
   by_cases c16 : t202 < 0
   ·
    rw [if_pos c16] at H
    have c16b0 : decide (t202 < 0) = true := decide_eq_true c16
    clear c16
    (first | rw [c16b0] | (simp only [i64_w, i32_w]; rw [c16b0]) | skip)
    have H' := Aside0.mk H
    clear H
    go_wp2_with (first | ((with_reducible refine gate_callee (f := 21) rfl ?_); refine goesL_ (some 26) rfl rfl Try.func21 (by kernel_rfl) rfl #[.slice A0 l0.length c0] rfl (by (try simp only [List.map_toArray, List.map_cons, List.map_nil]); first | done | rfl | (simp only [List.length_drop, List.length_take]; rfl)) ?_; (with_reducible refine (impl_AreTeams.calls k _ _ l0 true _ ?side1 ?side2 A14.out).mono ?_); (case side1 => repeat (first | exact (Kd.C_below HR0.out HB.out) | (with_reducible refine Kd.C_alloc ?_ _) | (with_reducible refine Kd.C_drewN ?_ _) | (with_reducible refine Kd.C_drew ?_))); (case side2 => exact HC0.out); rintro e w17 ⟨rfl, hb⟩; refine ⟨_, rfl, ?_⟩; have n0_ := Aside0.mk (Kd.S_below (by (with_reducible repeat (first | apply Kd.S_alloc | apply Kd.S_drewN | apply Kd.S_drew)); exact HO201.out) hb); have n1_ := Aside0.mk (below_step (by repeat (first | (with_reducible first | exact HB.out | apply below_alloc | apply pw_below_drewN | apply below_drew1) | exact HB.out)) hb); clear HO201; clear HB; have HO201 := n0_; have HB := n1_; clear n0_ n1_; (try clear hb); (try clear hb2); (try clear hk); (try clear hi)))
    go_meet
    case rel => exact ⟨_, (true), (by first | rfl | (simp; done) | (simp [*]; done)), H', ⟨by first | omega | exact Nat.le_refl _⟩, ⟨by (with_reducible repeat (first | apply Kd.S_alloc | apply Kd.S_drewN | apply Kd.S_drew)); exact HO201.out⟩, ⟨by repeat (first | (with_reducible first | exact HB.out | apply below_alloc | apply pw_below_drewN | apply below_drew1) | exact HB.out)⟩, ⟨fun h_ => by cases h_⟩⟩
   ·
    rw [if_neg c16] at H
    have c16b0 : decide (t202 < 0) = false := decide_eq_false c16
    clear c16
    (first | rw [c16b0] | (simp only [i64_w, i32_w]; rw [c16b0]) | skip)
    by_cases c18 : t203 < 0
    ·
     rw [if_pos c18] at H
     have c18b0 : decide (t203 < 0) = true := decide_eq_true c18
     clear c18
     have H' := Aside0.mk H
     clear H
     go_wp2_with (first | ((with_reducible refine gate_callee (f := 21) rfl ?_); refine goesL_ (some 26) rfl rfl Try.func21 (by kernel_rfl) rfl #[.slice A0 l0.length c0] rfl (by (try simp only [List.map_toArray, List.map_cons, List.map_nil]); first | done | rfl | (simp only [List.length_drop, List.length_take]; rfl)) ?_; (with_reducible refine (impl_AreTeams.calls k _ _ l0 true _ ?side1 ?side2 A14.out).mono ?_); (case side1 => repeat (first | exact (Kd.C_below HR0.out HB.out) | (with_reducible refine Kd.C_alloc ?_ _) | (with_reducible refine Kd.C_drewN ?_ _) | (with_reducible refine Kd.C_drew ?_))); (case side2 => exact HC0.out); rintro e w19 ⟨rfl, hb⟩; refine ⟨_, rfl, ?_⟩; have n0_ := Aside0.mk (Kd.S_below (by (with_reducible repeat (first | apply Kd.S_alloc | apply Kd.S_drewN | apply Kd.S_drew)); exact HO201.out) hb); have n1_ := Aside0.mk (below_step (by repeat (first | (with_reducible first | exact HB.out | apply below_alloc | apply pw_below_drewN | apply below_drew1) | exact HB.out)) hb); clear HO201; clear HB; have HO201 := n0_; have HB := n1_; clear n0_ n1_; (try clear hb); (try clear hb2); (try clear hk); (try clear hi)))
     go_meet
     case rel => exact ⟨_, (true), (by first | rfl | (simp; done) | (simp [*]; done)), H', ⟨by first | omega | exact Nat.le_refl _⟩, ⟨by (with_reducible repeat (first | apply Kd.S_alloc | apply Kd.S_drewN | apply Kd.S_drew)); exact HO201.out⟩, ⟨by repeat (first | (with_reducible first | exact HB.out | apply below_alloc | apply pw_below_drewN | apply below_drew1) | exact HB.out)⟩, ⟨fun h_ => by cases h_⟩⟩
    ·
     rw [if_neg c18] at H
     have c18b0 : decide (t203 < 0) = false := decide_eq_false c18
     clear c18
     by_cases c20 : t202 = t203
     ·
      rw [if_pos c20] at H
      have c20b0 : (t202 == t203) = true := beq_iff_eq.mpr c20
      have c20b1 : (t202 != t203) = false := bne_eq_false_iff_eq.mpr c20
      clear c20
      have H' := Aside0.mk H
      clear H
      go_wp2_with (first | ((with_reducible refine gate_callee (f := 21) rfl ?_); refine goesL_ (some 26) rfl rfl Try.func21 (by kernel_rfl) rfl #[.slice A0 l0.length c0] rfl (by (try simp only [List.map_toArray, List.map_cons, List.map_nil]); first | done | rfl | (simp only [List.length_drop, List.length_take]; rfl)) ?_; (with_reducible refine (impl_AreTeams.calls k _ _ l0 true _ ?side1 ?side2 A14.out).mono ?_); (case side1 => repeat (first | exact (Kd.C_below HR0.out HB.out) | (with_reducible refine Kd.C_alloc ?_ _) | (with_reducible refine Kd.C_drewN ?_ _) | (with_reducible refine Kd.C_drew ?_))); (case side2 => exact HC0.out); rintro e w21 ⟨rfl, hb⟩; refine ⟨_, rfl, ?_⟩; have n0_ := Aside0.mk (Kd.S_below (by (with_reducible repeat (first | apply Kd.S_alloc | apply Kd.S_drewN | apply Kd.S_drew)); exact HO201.out) hb); have n1_ := Aside0.mk (below_step (by repeat (first | (with_reducible first | exact HB.out | apply below_alloc | apply pw_below_drewN | apply below_drew1) | exact HB.out)) hb); clear HO201; clear HB; have HO201 := n0_; have HB := n1_; clear n0_ n1_; (try clear hb); (try clear hb2); (try clear hk); (try clear hi)))
      go_meet
      case rel => exact ⟨_, (true), (by first | rfl | (simp; done) | (simp [*]; done)), H', ⟨by first | omega | exact Nat.le_refl _⟩, ⟨by (with_reducible repeat (first | apply Kd.S_alloc | apply Kd.S_drewN | apply Kd.S_drew)); exact HO201.out⟩, ⟨by repeat (first | (with_reducible first | exact HB.out | apply below_alloc | apply pw_below_drewN | apply below_drew1) | exact HB.out)⟩, ⟨fun h_ => by cases h_⟩⟩
     ·
      rw [if_neg c20] at H
      have c20b0 : (t202 == t203) = false := beq_eq_false_iff_ne.mpr c20
      have c_ne := Aside0.mk (show ¬ t202 = t203 from c20)
      have c20b1 : (t202 != t203) = true := bne_iff_ne.mpr c20
      replace H := Option.bind_eq_some_iff.mp H
      obtain ⟨t205, A220, H⟩ := H
      replace H : (if t205 = true then ((impl_InRange.f a4 0 1000).bind fun t206 => (if t206 = true then ((impl_InRange.f a5 0 1000).bind fun t207 => (impl_AddResult.j0 k l0 a1 a2 a3 a4 a5 t199 t202 t203 (!t207))) else (impl_AddResult.j0 k l0 a1 a2 a3 a4 a5 t199 t202 t203 true))) else (impl_AddResult.j0 k l0 a1 a2 a3 a4 a5 t199 t202 t203 true)) = some (r1, r2) := H
      have A22 := Aside0.mk A220
      clear A220
      by_cases c23 : t205 = true
      ·
       subst c23
       have H1 : ((impl_InRange.f a4 0 1000).bind fun t206 => (if t206 = true then ((impl_InRange.f a5 0 1000).bind fun t207 => (impl_AddResult.j0 k l0 a1 a2 a3 a4 a5 t199 t202 t203 (!t207))) else (impl_AddResult.j0 k l0 a1 a2 a3 a4 a5 t199 t202 t203 true))) = some (r1, r2) := by rw [if_pos rfl] at H; exact H
       clear H
       have H := H1
       clear H1
       replace H := Option.bind_eq_some_iff.mp H
       obtain ⟨t206, A240, H⟩ := H
       replace H : (if t206 = true then ((impl_InRange.f a5 0 1000).bind fun t207 => (impl_AddResult.j0 k l0 a1 a2 a3 a4 a5 t199 t202 t203 (!t207))) else (impl_AddResult.j0 k l0 a1 a2 a3 a4 a5 t199 t202 t203 true)) = some (r1, r2) := H
       have A24 := Aside0.mk A240
       clear A240
       by_cases c25 : t206 = true
       ·
        subst c25
        have H1 : ((impl_InRange.f a5 0 1000).bind fun t207 => (impl_AddResult.j0 k l0 a1 a2 a3 a4 a5 t199 t202 t203 (!t207))) = some (r1, r2) := by rw [if_pos rfl] at H; exact H
        clear H
        have H := H1
        clear H1
        replace H := Option.bind_eq_some_iff.mp H
        obtain ⟨t207, A260, H⟩ := H
        replace H : (impl_AddResult.j0 k l0 a1 a2 a3 a4 a5 t199 t202 t203 (!t207)) = some (r1, r2) := H
        have A26 := Aside0.mk A260
        clear A260
        have H' := Aside0.mk H
        clear H
        go_wp2_with (first | ((with_reducible refine gate_callee (f := 21) rfl ?_); refine goesL_ (some 26) rfl rfl Try.func21 (by kernel_rfl) rfl #[.slice A0 l0.length c0] rfl (by (try simp only [List.map_toArray, List.map_cons, List.map_nil]); first | done | rfl | (simp only [List.length_drop, List.length_take]; rfl)) ?_; (with_reducible refine (impl_AreTeams.calls k _ _ l0 true _ ?side1 ?side2 A14.out).mono ?_); (case side1 => repeat (first | exact (Kd.C_below HR0.out HB.out) | (with_reducible refine Kd.C_alloc ?_ _) | (with_reducible refine Kd.C_drewN ?_ _) | (with_reducible refine Kd.C_drew ?_))); (case side2 => exact HC0.out); rintro e w27 ⟨rfl, hb⟩; refine ⟨_, rfl, ?_⟩; have n0_ := Aside0.mk (Kd.S_below (by (with_reducible repeat (first | apply Kd.S_alloc | apply Kd.S_drewN | apply Kd.S_drew)); exact HO201.out) hb); have n1_ := Aside0.mk (below_step (by repeat (first | (with_reducible first | exact HB.out | apply below_alloc | apply pw_below_drewN | apply below_drew1) | exact HB.out)) hb); clear HO201; clear HB; have HO201 := n0_; have HB := n1_; clear n0_ n1_; (try clear hb); (try clear hb2); (try clear hk); (try clear hi)) | (go_at_call 61; (with_reducible refine (impl_InRange.calls a3 1 2 true _ A22.out).mono ?_); rintro e w' ⟨rfl, ⟨nd, rfl⟩⟩) | (go_at_call 61; (with_reducible refine (impl_InRange.calls a4 0 1000 true _ A24.out).mono ?_); rintro e w' ⟨rfl, ⟨nd, rfl⟩⟩) | (go_at_call 61; (with_reducible refine (impl_InRange.calls a5 0 1000 t207 _ A26.out).mono ?_); rintro e w' ⟨rfl, ⟨nd, rfl⟩⟩))
        go_meet
        case rel => exact ⟨_, (!t207), (by first | rfl | (simp; done) | (simp [*]; done)), H', ⟨by first | omega | exact Nat.le_refl _⟩, ⟨by (with_reducible repeat (first | apply Kd.S_alloc | apply Kd.S_drewN | apply Kd.S_drew)); exact HO201.out⟩, ⟨by repeat (first | (with_reducible first | exact HB.out | apply below_alloc | apply pw_below_drewN | apply below_drew1) | exact HB.out)⟩, ⟨fun _ => c_ne.out⟩⟩
       ·
        replace c25 := Bool.eq_false_iff.mpr c25
        subst c25
        have H1 : (impl_AddResult.j0 k l0 a1 a2 a3 a4 a5 t199 t202 t203 true) = some (r1, r2) := by rw [if_neg (show ¬ (false = true) by decide)] at H; exact H
        clear H
        have H := H1
        clear H1
        have H' := Aside0.mk H
        clear H
        go_wp2_with (first | ((with_reducible refine gate_callee (f := 21) rfl ?_); refine goesL_ (some 26) rfl rfl Try.func21 (by kernel_rfl) rfl #[.slice A0 l0.length c0] rfl (by (try simp only [List.map_toArray, List.map_cons, List.map_nil]); first | done | rfl | (simp only [List.length_drop, List.length_take]; rfl)) ?_; (with_reducible refine (impl_AreTeams.calls k _ _ l0 true _ ?side1 ?side2 A14.out).mono ?_); (case side1 => repeat (first | exact (Kd.C_below HR0.out HB.out) | (with_reducible refine Kd.C_alloc ?_ _) | (with_reducible refine Kd.C_drewN ?_ _) | (with_reducible refine Kd.C_drew ?_))); (case side2 => exact HC0.out); rintro e w28 ⟨rfl, hb⟩; refine ⟨_, rfl, ?_⟩; have n0_ := Aside0.mk (Kd.S_below (by (with_reducible repeat (first | apply Kd.S_alloc | apply Kd.S_drewN | apply Kd.S_drew)); exact HO201.out) hb); have n1_ := Aside0.mk (below_step (by repeat (first | (with_reducible first | exact HB.out | apply below_alloc | apply pw_below_drewN | apply below_drew1) | exact HB.out)) hb); clear HO201; clear HB; have HO201 := n0_; have HB := n1_; clear n0_ n1_; (try clear hb); (try clear hb2); (try clear hk); (try clear hi)) | (go_at_call 61; (with_reducible refine (impl_InRange.calls a3 1 2 true _ A22.out).mono ?_); rintro e w' ⟨rfl, ⟨nd, rfl⟩⟩) | (go_at_call 61; (with_reducible refine (impl_InRange.calls a4 0 1000 false _ A24.out).mono ?_); rintro e w' ⟨rfl, ⟨nd, rfl⟩⟩))
        go_meet
        case rel => exact ⟨_, (true), (by first | rfl | (simp; done) | (simp [*]; done)), H', ⟨by first | omega | exact Nat.le_refl _⟩, ⟨by (with_reducible repeat (first | apply Kd.S_alloc | apply Kd.S_drewN | apply Kd.S_drew)); exact HO201.out⟩, ⟨by repeat (first | (with_reducible first | exact HB.out | apply below_alloc | apply pw_below_drewN | apply below_drew1) | exact HB.out)⟩, ⟨fun h_ => by cases h_⟩⟩
      ·
       replace c23 := Bool.eq_false_iff.mpr c23
       subst c23
       have H1 : (impl_AddResult.j0 k l0 a1 a2 a3 a4 a5 t199 t202 t203 true) = some (r1, r2) := by rw [if_neg (show ¬ (false = true) by decide)] at H; exact H
       clear H
       have H := H1
       clear H1
       have H' := Aside0.mk H
       clear H
       go_wp2_with (first | ((with_reducible refine gate_callee (f := 21) rfl ?_); refine goesL_ (some 26) rfl rfl Try.func21 (by kernel_rfl) rfl #[.slice A0 l0.length c0] rfl (by (try simp only [List.map_toArray, List.map_cons, List.map_nil]); first | done | rfl | (simp only [List.length_drop, List.length_take]; rfl)) ?_; (with_reducible refine (impl_AreTeams.calls k _ _ l0 true _ ?side1 ?side2 A14.out).mono ?_); (case side1 => repeat (first | exact (Kd.C_below HR0.out HB.out) | (with_reducible refine Kd.C_alloc ?_ _) | (with_reducible refine Kd.C_drewN ?_ _) | (with_reducible refine Kd.C_drew ?_))); (case side2 => exact HC0.out); rintro e w29 ⟨rfl, hb⟩; refine ⟨_, rfl, ?_⟩; have n0_ := Aside0.mk (Kd.S_below (by (with_reducible repeat (first | apply Kd.S_alloc | apply Kd.S_drewN | apply Kd.S_drew)); exact HO201.out) hb); have n1_ := Aside0.mk (below_step (by repeat (first | (with_reducible first | exact HB.out | apply below_alloc | apply pw_below_drewN | apply below_drew1) | exact HB.out)) hb); clear HO201; clear HB; have HO201 := n0_; have HB := n1_; clear n0_ n1_; (try clear hb); (try clear hb2); (try clear hk); (try clear hi)) | (go_at_call 61; (with_reducible refine (impl_InRange.calls a3 1 2 false _ A22.out).mono ?_); rintro e w' ⟨rfl, ⟨nd, rfl⟩⟩))
       go_meet
       case rel => exact ⟨_, (true), (by first | rfl | (simp; done) | (simp [*]; done)), H', ⟨by first | omega | exact Nat.le_refl _⟩, ⟨by (with_reducible repeat (first | apply Kd.S_alloc | apply Kd.S_drewN | apply Kd.S_drew)); exact HO201.out⟩, ⟨by repeat (first | (with_reducible first | exact HB.out | apply below_alloc | apply pw_below_drewN | apply below_drew1) | exact HB.out)⟩, ⟨fun h_ => by cases h_⟩⟩
  ·
   replace c15 := Bool.eq_false_iff.mpr c15
   subst c15
   have H1 : (impl_AddResult.j0 k l0 a1 a2 a3 a4 a5 t199 t202 t203 true) = some (r1, r2) := by rw [if_neg (show ¬ (false = true) by decide)] at H; exact H
   clear H
   have H := H1
   clear H1
   have H' := Aside0.mk H
   clear H
   go_wp2_with (first | ((with_reducible refine gate_callee (f := 21) rfl ?_); refine goesL_ (some 26) rfl rfl Try.func21 (by kernel_rfl) rfl #[.slice A0 l0.length c0] rfl (by (try simp only [List.map_toArray, List.map_cons, List.map_nil]); first | done | rfl | (simp only [List.length_drop, List.length_take]; rfl)) ?_; (with_reducible refine (impl_AreTeams.calls k _ _ l0 false _ ?side1 ?side2 A14.out).mono ?_); (case side1 => repeat (first | exact (Kd.C_below HR0.out HB.out) | (with_reducible refine Kd.C_alloc ?_ _) | (with_reducible refine Kd.C_drewN ?_ _) | (with_reducible refine Kd.C_drew ?_))); (case side2 => exact HC0.out); rintro e w30 ⟨rfl, hb⟩; refine ⟨_, rfl, ?_⟩; have n0_ := Aside0.mk (Kd.S_below (by (with_reducible repeat (first | apply Kd.S_alloc | apply Kd.S_drewN | apply Kd.S_drew)); exact HO201.out) hb); have n1_ := Aside0.mk (below_step (by repeat (first | (with_reducible first | exact HB.out | apply below_alloc | apply pw_below_drewN | apply below_drew1) | exact HB.out)) hb); clear HO201; clear HB; have HO201 := n0_; have HB := n1_; clear n0_ n1_; (try clear hb); (try clear hb2); (try clear hk); (try clear hi)))
   go_meet
   case rel => exact ⟨_, (true), (by first | rfl | (simp; done) | (simp [*]; done)), H', ⟨by first | omega | exact Nat.le_refl _⟩, ⟨by (with_reducible repeat (first | apply Kd.S_alloc | apply Kd.S_drewN | apply Kd.S_drew)); exact HO201.out⟩, ⟨by repeat (first | (with_reducible first | exact HB.out | apply below_alloc | apply pw_below_drewN | apply below_drew1) | exact HB.out)⟩, ⟨fun h_ => by cases h_⟩⟩
 case rest =>
  clear HC10
  try clear c1
  try clear c2
  try clear p2
  try clear c4
  try clear c7
  try clear c15
  try clear c16
  try clear c16b0
  try clear c18
  try clear c18b0
  try clear c20
  try clear c20b0
  try clear c20b1
  try clear c21
  try clear c23
  try clear c25
  obtain ⟨kq, x55_9, rfl, HA, HJ9, HO_14, HB, HNE0⟩ := hcut
  cases kq with
  | zero => exact absurd HA.out (by simp [impl_AddResult.j0])
  | succ kj9 =>
   have H := HA.out
   clear HA
   simp only [impl_AddResult.j0] at H
   by_cases c31 : x55_9 = true
   ·
    subst c31
    have H1 : (some (t199, false)) = some (r1, r2) := by rw [if_pos rfl] at H; exact H
    clear H
    have H := H1
    clear H1
    simp only [Option.some.injEq, Prod.mk.injEq] at H
    obtain ⟨rfl, rfl⟩ := H
    go_wp2
    go_ret2
    exact ⟨_, by first | rfl | (simp [errW_none, errW_some] <;> rfl) | (simp [*, errW_none, errW_some] <;> rfl), by (with_reducible repeat (first | apply Kd.S_alloc | apply Kd.S_drewN | apply Kd.S_drew)); exact HO_14.out, by repeat (first | (with_reducible first | exact HB.out | apply below_alloc | apply pw_below_drewN | apply below_drew1) | exact HB.out)⟩
   ·
    replace c31 := Bool.eq_false_iff.mpr c31
    subst c31
    have H1 : (if 0 ≤ t202 then (if t202 < (t199.length : Int) then (if ((rd_T61 t199 t202).f5).length < 17592186044416 then ((some (t199.set (t202 : Int).toNat (⟨(rd_T61 t199 t202).f0, (rd_T61 t199 t202).f1, (rd_T61 t199 t202).f2, (rd_T61 t199 t202).f3, (rd_T61 t199 t202).f4, (((rd_T61 t199 t202).f5) ++ [a2])⟩ : S61) : List (S61))).bind fun y212 => (if 0 ≤ t203 then (if t203 < (t199.length : Int) then (if ((rd_T61 y212 t203).f5).length < 17592186044416 then ((some (y212.set (t203 : Int).toNat (⟨(rd_T61 y212 t203).f0, (rd_T61 y212 t203).f1, (rd_T61 y212 t203).f2, (rd_T61 y212 t203).f3, (rd_T61 y212 t203).f4, (((rd_T61 y212 t203).f5) ++ [a1])⟩ : S61) : List (S61))).bind fun y217 => ((some (y217.set (t202 : Int).toNat (⟨(rd_T61 y217 t202).f0, (rd_T61 y217 t202).f1, (rd_T61 y217 t202).f2, (rd_T61 y217 t202).f3, wrap64 (((rd_T61 y217 t202).f4) + 1), (rd_T61 y217 t202).f5⟩ : S61) : List (S61))).bind fun y219 => (if a3 = 1 then (impl_AddResult.j1 kj9 l0 a4 a5 (y219.set (t202 : Int).toNat (⟨(rd_T61 y219 t202).f0, (rd_T61 y219 t202).f1, wrap64 (((rd_T61 y219 t202).f2) + 1), (rd_T61 y219 t202).f3, (rd_T61 y219 t202).f4, (rd_T61 y219 t202).f5⟩ : S61)) t202 t203) else (impl_AddResult.j1 kj9 l0 a4 a5 (y219.set (t203 : Int).toNat (⟨(rd_T61 y219 t203).f0, (rd_T61 y219 t203).f1, wrap64 (((rd_T61 y219 t203).f2) + 1), (rd_T61 y219 t203).f3, (rd_T61 y219 t203).f4, (rd_T61 y219 t203).f5⟩ : S61)) t202 t203)))) else (none)) else (none)) else (none))) else (none)) else (none)) else (none)) = some (r1, r2) := by rw [if_neg (show ¬ (false = true) by decide)] at H; exact H
    clear H
    have H := H1
    clear H1
    by_cases c32 : 0 ≤ t202
    ·
     rw [if_pos c32] at H
     have c32b0 : decide (0 ≤ t202) = true := decide_eq_true c32
     clear c32
     by_cases c33 : t202 < (t199.length : Int)
     ·
      rw [if_pos c33] at H
      have c33b0 : decide (t202 < (t199.length : Int)) = true := decide_eq_true c33
      clear c33
      by_cases c34 : ((rd_T61 t199 t202).f5).length < 17592186044416
      ·
       rw [if_pos c34] at H
       have LMc34 := Aside0.mk c34
       clear c34
       obtain ⟨y209, hy209⟩ : ∃ y_ : List Int, y_ = (((rd_T61 t199 t202).f5) ++ [a2]) := ⟨_, rfl⟩
       replace H : ((some (t199.set (t202 : Int).toNat (⟨(rd_T61 t199 t202).f0, (rd_T61 t199 t202).f1, (rd_T61 t199 t202).f2, (rd_T61 t199 t202).f3, (rd_T61 t199 t202).f4, y209⟩ : S61) : List (S61))).bind fun y212 => (if 0 ≤ t203 then (if t203 < (t199.length : Int) then (if ((rd_T61 y212 t203).f5).length < 17592186044416 then ((some (y212.set (t203 : Int).toNat (⟨(rd_T61 y212 t203).f0, (rd_T61 y212 t203).f1, (rd_T61 y212 t203).f2, (rd_T61 y212 t203).f3, (rd_T61 y212 t203).f4, (((rd_T61 y212 t203).f5) ++ [a1])⟩ : S61) : List (S61))).bind fun y217 => ((some (y217.set (t202 : Int).toNat (⟨(rd_T61 y217 t202).f0, (rd_T61 y217 t202).f1, (rd_T61 y217 t202).f2, (rd_T61 y217 t202).f3, wrap64 (((rd_T61 y217 t202).f4) + 1), (rd_T61 y217 t202).f5⟩ : S61) : List (S61))).bind fun y219 => (if a3 = 1 then (impl_AddResult.j1 kj9 l0 a4 a5 (y219.set (t202 : Int).toNat (⟨(rd_T61 y219 t202).f0, (rd_T61 y219 t202).f1, wrap64 (((rd_T61 y219 t202).f2) + 1), (rd_T61 y219 t202).f3, (rd_T61 y219 t202).f4, (rd_T61 y219 t202).f5⟩ : S61)) t202 t203) else (impl_AddResult.j1 kj9 l0 a4 a5 (y219.set (t203 : Int).toNat (⟨(rd_T61 y219 t203).f0, (rd_T61 y219 t203).f1, wrap64 (((rd_T61 y219 t203).f2) + 1), (rd_T61 y219 t203).f3, (rd_T61 y219 t203).f4, (rd_T61 y219 t203).f5⟩ : S61)) t202 t203)))) else (none)) else (none)) else (none))) = some (r1, r2) := by first | (rw [hy209]; with_reducible exact H) | (have H2_ := (Option.bind_some _ _).symm.trans H; rw [hy209]; with_reducible exact H2_) | (have H2_ := (Option.bind_some _ _).symm.trans H; with_reducible exact H2_) | with_reducible exact H | (rw [hy209]; exact H) | exact H
       have Ny209 := Aside0.mk hy209
       clear hy209
       obtain ⟨y212, hy212⟩ : ∃ y_ : List (S61), y_ = (t199.set (t202 : Int).toNat (⟨(rd_T61 t199 t202).f0, (rd_T61 t199 t202).f1, (rd_T61 t199 t202).f2, (rd_T61 t199 t202).f3, (rd_T61 t199 t202).f4, y209⟩ : S61)) := ⟨_, rfl⟩
       replace H : (if 0 ≤ t203 then (if t203 < (t199.length : Int) then (if ((rd_T61 y212 t203).f5).length < 17592186044416 then ((some (y212.set (t203 : Int).toNat (⟨(rd_T61 y212 t203).f0, (rd_T61 y212 t203).f1, (rd_T61 y212 t203).f2, (rd_T61 y212 t203).f3, (rd_T61 y212 t203).f4, (((rd_T61 y212 t203).f5) ++ [a1])⟩ : S61) : List (S61))).bind fun y217 => ((some (y217.set (t202 : Int).toNat (⟨(rd_T61 y217 t202).f0, (rd_T61 y217 t202).f1, (rd_T61 y217 t202).f2, (rd_T61 y217 t202).f3, wrap64 (((rd_T61 y217 t202).f4) + 1), (rd_T61 y217 t202).f5⟩ : S61) : List (S61))).bind fun y219 => (if a3 = 1 then (impl_AddResult.j1 kj9 l0 a4 a5 (y219.set (t202 : Int).toNat (⟨(rd_T61 y219 t202).f0, (rd_T61 y219 t202).f1, wrap64 (((rd_T61 y219 t202).f2) + 1), (rd_T61 y219 t202).f3, (rd_T61 y219 t202).f4, (rd_T61 y219 t202).f5⟩ : S61)) t202 t203) else (impl_AddResult.j1 kj9 l0 a4 a5 (y219.set (t203 : Int).toNat (⟨(rd_T61 y219 t203).f0, (rd_T61 y219 t203).f1, wrap64 (((rd_T61 y219 t203).f2) + 1), (rd_T61 y219 t203).f3, (rd_T61 y219 t203).f4, (rd_T61 y219 t203).f5⟩ : S61)) t202 t203)))) else (none)) else (none)) else (none)) = some (r1, r2) := by first | (rw [hy212]; with_reducible exact H) | (have H2_ := (Option.bind_some _ _).symm.trans H; rw [hy212]; with_reducible exact H2_) | (have H2_ := (Option.bind_some _ _).symm.trans H; with_reducible exact H2_) | with_reducible exact H | (rw [hy212]; exact H) | exact H
       have Ny212 := Aside0.mk hy212
       clear hy212
       by_cases c36 : 0 ≤ t203
       ·
        rw [if_pos c36] at H
        have c36b0 : decide (0 ≤ t203) = true := decide_eq_true c36
        clear c36
        by_cases c37 : t203 < (t199.length : Int)
        ·
         rw [if_pos c37] at H
         have c37b0 : decide (t203 < (t199.length : Int)) = true := decide_eq_true c37
         clear c37
         by_cases c38 : ((rd_T61 y212 t203).f5).length < 17592186044416
         ·
          rw [if_pos c38] at H
          have LMc38 := Aside0.mk c38
          clear c38
          obtain ⟨y214, hy214⟩ : ∃ y_ : List Int, y_ = (((rd_T61 y212 t203).f5) ++ [a1]) := ⟨_, rfl⟩
          replace H : ((some (y212.set (t203 : Int).toNat (⟨(rd_T61 y212 t203).f0, (rd_T61 y212 t203).f1, (rd_T61 y212 t203).f2, (rd_T61 y212 t203).f3, (rd_T61 y212 t203).f4, y214⟩ : S61) : List (S61))).bind fun y217 => ((some (y217.set (t202 : Int).toNat (⟨(rd_T61 y217 t202).f0, (rd_T61 y217 t202).f1, (rd_T61 y217 t202).f2, (rd_T61 y217 t202).f3, wrap64 (((rd_T61 y217 t202).f4) + 1), (rd_T61 y217 t202).f5⟩ : S61) : List (S61))).bind fun y219 => (if a3 = 1 then (impl_AddResult.j1 kj9 l0 a4 a5 (y219.set (t202 : Int).toNat (⟨(rd_T61 y219 t202).f0, (rd_T61 y219 t202).f1, wrap64 (((rd_T61 y219 t202).f2) + 1), (rd_T61 y219 t202).f3, (rd_T61 y219 t202).f4, (rd_T61 y219 t202).f5⟩ : S61)) t202 t203) else (impl_AddResult.j1 kj9 l0 a4 a5 (y219.set (t203 : Int).toNat (⟨(rd_T61 y219 t203).f0, (rd_T61 y219 t203).f1, wrap64 (((rd_T61 y219 t203).f2) + 1), (rd_T61 y219 t203).f3, (rd_T61 y219 t203).f4, (rd_T61 y219 t203).f5⟩ : S61)) t202 t203)))) = some (r1, r2) := by first | (rw [hy214]; with_reducible exact H) | (have H2_ := (Option.bind_some _ _).symm.trans H; rw [hy214]; with_reducible exact H2_) | (have H2_ := (Option.bind_some _ _).symm.trans H; with_reducible exact H2_) | with_reducible exact H | (rw [hy214]; exact H) | exact H
          have Ny214 := Aside0.mk hy214
          clear hy214
          obtain ⟨y217, hy217⟩ : ∃ y_ : List (S61), y_ = (y212.set (t203 : Int).toNat (⟨(rd_T61 y212 t203).f0, (rd_T61 y212 t203).f1, (rd_T61 y212 t203).f2, (rd_T61 y212 t203).f3, (rd_T61 y212 t203).f4, y214⟩ : S61)) := ⟨_, rfl⟩
          replace H : ((some (y217.set (t202 : Int).toNat (⟨(rd_T61 y217 t202).f0, (rd_T61 y217 t202).f1, (rd_T61 y217 t202).f2, (rd_T61 y217 t202).f3, wrap64 (((rd_T61 y217 t202).f4) + 1), (rd_T61 y217 t202).f5⟩ : S61) : List (S61))).bind fun y219 => (if a3 = 1 then (impl_AddResult.j1 kj9 l0 a4 a5 (y219.set (t202 : Int).toNat (⟨(rd_T61 y219 t202).f0, (rd_T61 y219 t202).f1, wrap64 (((rd_T61 y219 t202).f2) + 1), (rd_T61 y219 t202).f3, (rd_T61 y219 t202).f4, (rd_T61 y219 t202).f5⟩ : S61)) t202 t203) else (impl_AddResult.j1 kj9 l0 a4 a5 (y219.set (t203 : Int).toNat (⟨(rd_T61 y219 t203).f0, (rd_T61 y219 t203).f1, wrap64 (((rd_T61 y219 t203).f2) + 1), (rd_T61 y219 t203).f3, (rd_T61 y219 t203).f4, (rd_T61 y219 t203).f5⟩ : S61)) t202 t203))) = some (r1, r2) := by first | (rw [hy217]; with_reducible exact H) | (have H2_ := (Option.bind_some _ _).symm.trans H; rw [hy217]; with_reducible exact H2_) | (have H2_ := (Option.bind_some _ _).symm.trans H; with_reducible exact H2_) | with_reducible exact H | (rw [hy217]; exact H) | exact H
          have Ny217 := Aside0.mk hy217
          clear hy217
          obtain ⟨y219, hy219⟩ : ∃ y_ : List (S61), y_ = (y217.set (t202 : Int).toNat (⟨(rd_T61 y217 t202).f0, (rd_T61 y217 t202).f1, (rd_T61 y217 t202).f2, (rd_T61 y217 t202).f3, wrap64 (((rd_T61 y217 t202).f4) + 1), (rd_T61 y217 t202).f5⟩ : S61)) := ⟨_, rfl⟩
          replace H : (if a3 = 1 then (impl_AddResult.j1 kj9 l0 a4 a5 (y219.set (t202 : Int).toNat (⟨(rd_T61 y219 t202).f0, (rd_T61 y219 t202).f1, wrap64 (((rd_T61 y219 t202).f2) + 1), (rd_T61 y219 t202).f3, (rd_T61 y219 t202).f4, (rd_T61 y219 t202).f5⟩ : S61)) t202 t203) else (impl_AddResult.j1 kj9 l0 a4 a5 (y219.set (t203 : Int).toNat (⟨(rd_T61 y219 t203).f0, (rd_T61 y219 t203).f1, wrap64 (((rd_T61 y219 t203).f2) + 1), (rd_T61 y219 t203).f3, (rd_T61 y219 t203).f4, (rd_T61 y219 t203).f5⟩ : S61)) t202 t203)) = some (r1, r2) := by first | (rw [hy219]; with_reducible exact H) | (have H2_ := (Option.bind_some _ _).symm.trans H; rw [hy219]; with_reducible exact H2_) | (have H2_ := (Option.bind_some _ _).symm.trans H; with_reducible exact H2_) | with_reducible exact H | (rw [hy219]; exact H) | exact H
          have Ny219 := Aside0.mk hy219
          clear hy219
          have HC41 := Aside0.mk H
          clear H
          obtain ⟨Ao42, co42, eo42⟩ := Kd.S_slice HO_14.out
          subst eo42
          have p208 : 0 ≤ (t202 : Int) := of_decide_eq_true (by first | (with_reducible assumption) | assumption)
          have q208 : t202 < (t199.length : Int) := of_decide_eq_true (by first | (with_reducible assumption) | assumption)
          obtain ⟨ad208, A208_5, c208_5, e208, hx208_0, hx208_1, hx208_2, hx208_3, hx208_4, hx208_5, hl208_5, hi208_5⟩ := at_T61 (Kd.S_reads' HO_14.out).2.2 t202 p208 q208
          cases e208
          obtain ⟨ce208, hce208, hMe208, hcc208⟩ := Kd.S_get HO_14.out z61 t202 p208 (by first | exact q208 | exact of_decide_eq_true (by first | (with_reducible assumption) | assumption) | (have e_ := (Kd.S_reads' HO_14.out).1; omega))
          obtain ⟨ve208_5, rfl, ge208_5⟩ := k61_openM hMe208
          have hv208_5 := hcc208 5 _ rfl
          rw [add_field _ _ 5 (by omega)] at hv208_5
          replace hv208_5 := Option.some.inj (hv208_5.symm.trans hx208_5)
          rw [hv208_5] at ge208_5
          have HL208_5 := Aside0.mk (show Kd.R (Kd.int .i64) 3 _ _ _ _ ((rd_T61 t199 t202).f5) from ge208_5)
          clear hv208_5 ge208_5
          have HX208_5 := Aside0.mk hx208_5
          clear hcc208 hce208
          have HR208_5 := Aside0.mk hi208_5
          have HC208_5 := Aside0.mk hl208_5
          clear hi208_5 hl208_5
          replace p208 := eq_true p208
          replace q208 := eq_true q208
          obtain ⟨go43, co43, eo43, gb43, gl43, cl43, HG43⟩ := Kd.S_form HO_14.out (by have h_ : (t202 : Int) < ((t199.length : Int) : Int) := of_decide_eq_true (by first | (with_reducible assumption) | assumption); have h2_ : 0 ≤ (t202 : Int) := (of_decide_eq_true (by first | (with_reducible assumption) | assumption)); omega)
          (first | cases eo43 | (injection eo43 with ea_ en_ ec_; (first | subst ea_ | (injection ea_ with ea_; subst ea_)); subst ec_; clear en_))
          have GB43 := Aside0.mk gb43
          have GG43 := Aside0.mk HG43
          clear gb43 gl43 HG43
          (first | simp only [add_plain] at hx208_0 | skip)
          (first | simp only [add_plain] at hx208_1 | skip)
          (first | simp only [add_plain] at hx208_2 | skip)
          (first | simp only [add_plain] at hx208_3 | skip)
          (first | simp only [add_plain] at hx208_4 | skip)
          (first | simp only [add_plain] at hx208_5 | skip)
          have HNE : Aside0 (¬ t202 = t203) := ⟨HNE0.out rfl⟩
          clear HNE0
          have pj_ : 0 ≤ (t203 : Int) := of_decide_eq_true (by first | (with_reducible assumption) | assumption)
          have qj_ : t203 < (t199.length : Int) := of_decide_eq_true (by first | (with_reducible assumption) | assumption)
          obtain ⟨adj_, A2_, c2_, ej_, _, _, _, _, _, hxj_, hlj_, hij_⟩ := at_T61 (Kd.S_reads' HO_14.out).2.2 t203 pj_ qj_
          obtain rfl : (⟨go43, 0, none⟩ : Addr) = adj_ := (by injection ej_)
          (first | simp only [add_plain] at hxj_ | skip)
          clear hlj_ hij_
          replace pj_ := eq_true pj_
          replace qj_ := eq_true qj_
          have hXi : wc.cell? ⟨go43, (t202 : Int).toNat * 6 + 5, none⟩ = some (.slice A208_5 ((rd_T61 t199 t202).f5).length c208_5) := hx208_5
          have hXj : wc.cell? ⟨go43, (t203 : Int).toNat * 6 + 5, none⟩ = some (.slice A2_ ((rd_T61 t199 t203).f5).length c2_) := hxj_
          have HY2 : Aside0 (y214 = ((rd_T61 t199 t203).f5) ++ [a1]) := ⟨by rw [Ny214.out, Ny212.out, rd_other (of_eq_true p208) (of_eq_true pj_) HNE.out]⟩
          have LMj : Aside0 (((rd_T61 t199 t203).f5).length < 17592186044416) := ⟨by have h_ := LMc38.out; rw [Ny212.out, rd_other (of_eq_true p208) (of_eq_true pj_) HNE.out] at h_; exact h_⟩
          clear hxj_ hx208_0 hx208_1 hx208_2 hx208_3 hx208_4 hx208_5
          go_wp2
          refine start_ (n := 26) (S := fun w' => w'.cell? ⟨go43, (t202 : Int).toNat * 6 + 5, none⟩ = some (.slice A208_5 ((rd_T61 t199 t202).f5).length c208_5) ∧ w'.cell? ⟨go43, (t203 : Int).toNat * 6 + 5, none⟩ = some (.slice A2_ ((rd_T61 t199 t203).f5).length c2_)) (ds := [22, 25]) #[zz,zz,zz,zz,zz,zz,zz,zz,zz,zz,zz,zz,zz,zz,zz,zz,zz,zz,zz,zz,zz,zz,zz,zz,zz,zz] (by kernel_rfl) rfl rfl ⟨hXi, hXj⟩ (fun hHeld => ?_)
          have n0_ := Aside0.mk (Kd.S_drew HO_14.out)
          have n1_ := Aside0.mk (below_drew1 HB.out)
          clear HO_14; clear HB
          have HO_14 := n0_; have HB := n1_
          clear n0_ n1_ hXi hXj HL208_5 HX208_5 HR208_5 HC208_5
          generalize wc.drew = wd at HO_14 HB hHeld ⊢
          obtain ⟨hr1_, hr2_, hap_, hg1_, hg2_⟩ := two_rows HO_14.out (of_eq_true p208) (of_eq_true q208) (of_eq_true pj_) (of_eq_true qj_) HNE.out hHeld.1 hHeld.2
          have HA0 : Aside0 (TwoA w wd wd (.slice A208_5 ((rd_T61 t199 t202).f5).length c208_5) (.slice A2_ ((rd_T61 t199 t203).f5).length c2_) ((rd_T61 t199 t202).f5) ((rd_T61 t199 t203).f5)) := ⟨⟨HB.out, Below.refl _ _, hr1_, hr2_⟩⟩
          have HAP := Aside0.mk hap_; have HG1 := Aside0.mk hg1_; have HG2 := Aside0.mk hg2_
          have HHELD := Aside0.mk hHeld
          have hBG := Aside0.mk (Kd.S_base HO_14.out go43 rfl); have hLG := Aside0.mk (Kd.S_lt HO_14.out go43 rfl)
          clear hr1_ hr2_ hap_ hg1_ hg2_
          refine pure_ (i := 0) (N := some 57) (v := ?_) (a' := ?_) #[oo,zz,zz,zz,zz,zz,zz,zz,zz,zz,zz,zz,zz,zz,zz,zz,zz,zz,zz,zz,zz,zz,zz,zz,zz,zz] rfl rfl (by kernel_rfl) (fun _ _ _ h => h) (Or.inl ⟨by rfl, ?_⟩) ?_ ?_
          rotate_left
          ·
           intro w'
           go_simp
           with_reducible rfl
          rotate_left
          ·
           simp only [Act.put, List.setIfInBounds_toArray, List.set_cons_zero, List.set_cons_succ, i64_w, i32_w]
           rfl
          refine pure_ (i := 1) (N := some 58) (v := ?_) (a' := ?_) #[oo,oo,zz,zz,zz,zz,zz,zz,zz,zz,zz,zz,zz,zz,zz,zz,zz,zz,zz,zz,zz,zz,zz,zz,zz,zz] rfl rfl (by kernel_rfl) (fun _ _ _ h => h) (Or.inl ⟨by rfl, ?_⟩) ?_ ?_
          rotate_left
          ·
           intro w'
           go_simp
           with_reducible rfl
          rotate_left
          ·
           simp only [Act.put, List.setIfInBounds_toArray, List.set_cons_zero, List.set_cons_succ, i64_w, i32_w]
           rfl
          refine pure_ (i := 2) (N := some 59) (v := ?_) (a' := ?_) #[oo,oo,oo,zz,zz,zz,zz,zz,zz,zz,zz,zz,zz,zz,zz,zz,zz,zz,zz,zz,zz,zz,zz,zz,zz,zz] rfl rfl (by kernel_rfl) (fun _ _ _ h => h) (Or.inl ⟨by rfl, ?_⟩) ?_ ?_
          rotate_left
          ·
           intro w'
           go_simp
           with_reducible rfl
          rotate_left
          ·
           simp only [Act.put, List.setIfInBounds_toArray, List.set_cons_zero, List.set_cons_succ, i64_w, i32_w]
           rfl
          refine pure_ (i := 3) (N := some 60) (v := ?_) (a' := ?_) #[oo,oo,oo,oo,zz,zz,zz,zz,zz,zz,zz,zz,zz,zz,zz,zz,zz,zz,zz,zz,zz,zz,zz,zz,zz,zz] rfl rfl (by kernel_rfl) (fun _ _ _ h => h) (Or.inl ⟨by rfl, ?_⟩) ?_ ?_
          rotate_left
          ·
           intro w'
           go_simp
           with_reducible rfl
          rotate_left
          ·
           simp only [Act.put, List.setIfInBounds_toArray, List.set_cons_zero, List.set_cons_succ, i64_w, i32_w]
           rfl
          refine pure_ (i := 4) (N := some 61) (v := ?_) (a' := ?_) #[oo,oo,oo,oo,oo,zz,zz,zz,zz,zz,zz,zz,zz,zz,zz,zz,zz,zz,zz,zz,zz,zz,zz,zz,zz,zz] rfl rfl (by kernel_rfl) (fun _ _ _ h => h) (Or.inl ⟨by rfl, ?_⟩) ?_ ?_
          rotate_left
          ·
           intro w'
           go_simp
           with_reducible rfl
          rotate_left
          ·
           simp only [Act.put, List.setIfInBounds_toArray, List.set_cons_zero, List.set_cons_succ, i64_w, i32_w]
           rfl
          refine pure_ (i := 5) (N := some 62) (v := ?_) (a' := ?_) #[oo,oo,oo,oo,oo,oo,zz,zz,zz,zz,zz,zz,zz,zz,zz,zz,zz,zz,zz,zz,zz,zz,zz,zz,zz,zz] rfl rfl (by kernel_rfl) (fun _ _ _ h => h) (Or.inl ⟨by rfl, ?_⟩) ?_ ?_
          rotate_left
          ·
           intro w'
           go_simp
           with_reducible rfl
          rotate_left
          ·
           simp only [Act.put, List.setIfInBounds_toArray, List.set_cons_zero, List.set_cons_succ, i64_w, i32_w]
           rfl
          refine pure_ (i := 6) (N := some 63) (v := ?_) (a' := ?_) #[oo,oo,oo,oo,oo,oo,oo,zz,zz,zz,zz,zz,zz,zz,zz,zz,zz,zz,zz,zz,zz,zz,zz,zz,zz,zz] rfl rfl (by kernel_rfl) (fun _ _ _ h => h) (Or.inl ⟨by rfl, ?_⟩) ?_ ?_
          rotate_left
          ·
           intro w'
           go_simp
           with_reducible rfl
          rotate_left
          ·
           simp only [Act.put, List.setIfInBounds_toArray, List.set_cons_zero, List.set_cons_succ, i64_w, i32_w]
           rfl
          refine pure_ (i := 7) (N := some 64) (v := ?_) (a' := ?_) #[oo,oo,oo,oo,oo,oo,oo,oo,zz,zz,zz,zz,zz,zz,zz,zz,zz,zz,zz,zz,zz,zz,zz,zz,zz,zz] rfl rfl (by kernel_rfl) (fun _ _ _ h => h) (Or.inl ⟨by rfl, ?_⟩) ?_ ?_
          rotate_left
          ·
           intro w'
           go_simp
           with_reducible rfl
          rotate_left
          ·
           simp only [Act.put, List.setIfInBounds_toArray, List.set_cons_zero, List.set_cons_succ, i64_w, i32_w]
           rfl
          refine pure_ (i := 9) (N := some 66) (v := ?_) (a' := ?_) #[oo,oo,oo,oo,oo,oo,oo,oo,zz,oo,zz,zz,zz,zz,zz,zz,zz,zz,zz,zz,zz,zz,zz,zz,zz,zz] rfl rfl (by kernel_rfl) (fun _ _ _ h => h) (Or.inl ⟨by rfl, ?_⟩) ?_ ?_
          rotate_left
          ·
           intro w'
           go_simp
           with_reducible rfl
          rotate_left
          ·
           simp only [Act.put, List.setIfInBounds_toArray, List.set_cons_zero, List.set_cons_succ, i64_w, i32_w]
           rfl
          refine pure_ (i := 12) (N := some 69) (v := ?_) (a' := ?_) #[oo,oo,oo,oo,oo,oo,oo,oo,zz,oo,zz,zz,oo,zz,zz,zz,zz,zz,zz,zz,zz,zz,zz,zz,zz,zz] rfl rfl (by kernel_rfl) (fun _ _ _ h => h) (Or.inl ⟨by rfl, ?_⟩) ?_ ?_
          rotate_left
          ·
           intro w'
           go_simp
           with_reducible rfl
          rotate_left
          ·
           simp only [Act.put, List.setIfInBounds_toArray, List.set_cons_zero, List.set_cons_succ, i64_w, i32_w]
           rfl
          refine pure_ (i := 13) (N := some 70) (v := ?_) (a' := ?_) #[oo,oo,oo,oo,oo,oo,oo,oo,zz,oo,zz,zz,oo,oo,zz,zz,zz,zz,zz,zz,zz,zz,zz,zz,zz,zz] rfl rfl (by kernel_rfl) (fun _ _ _ h => h) (Or.inl ⟨by rfl, ?_⟩) ?_ ?_
          rotate_left
          ·
           intro w'
           go_simp
           with_reducible rfl
          rotate_left
          ·
           simp only [Act.put, List.setIfInBounds_toArray, List.set_cons_zero, List.set_cons_succ, i64_w, i32_w]
           rfl
          refine pure_ (i := 14) (N := some 71) (v := ?_) (a' := ?_) #[oo,oo,oo,oo,oo,oo,oo,oo,zz,oo,zz,zz,oo,oo,oo,zz,zz,zz,zz,zz,zz,zz,zz,zz,zz,zz] rfl rfl (by kernel_rfl) (fun _ _ _ h => h) (Or.inl ⟨by rfl, ?_⟩) ?_ ?_
          rotate_left
          ·
           intro w'
           go_simp
           with_reducible rfl
          rotate_left
          ·
           simp only [Act.put, List.setIfInBounds_toArray, List.set_cons_zero, List.set_cons_succ, i64_w, i32_w]
           rfl
          refine pure_ (i := 15) (N := some 72) (v := ?_) (a' := ?_) #[oo,oo,oo,oo,oo,oo,oo,oo,zz,oo,zz,zz,oo,oo,oo,oo,zz,zz,zz,zz,zz,zz,zz,zz,zz,zz] rfl rfl (by kernel_rfl) (fun _ _ _ h => h) (Or.inl ⟨by rfl, ?_⟩) ?_ ?_
          rotate_left
          ·
           intro w'
           go_simp
           with_reducible rfl
          rotate_left
          ·
           simp only [Act.put, List.setIfInBounds_toArray, List.set_cons_zero, List.set_cons_succ, i64_w, i32_w]
           rfl
          refine pure_ (i := 17) (N := some 74) (v := ?_) (a' := ?_) #[oo,oo,oo,oo,oo,oo,oo,oo,zz,oo,zz,zz,oo,oo,oo,oo,zz,oo,zz,zz,zz,zz,zz,zz,zz,zz] rfl rfl (by kernel_rfl) (fun _ _ _ h => h) (Or.inl ⟨by rfl, ?_⟩) ?_ ?_
          rotate_left
          ·
           intro w'
           go_simp
           with_reducible rfl
          rotate_left
          ·
           simp only [Act.put, List.setIfInBounds_toArray, List.set_cons_zero, List.set_cons_succ, i64_w, i32_w]
           rfl
          refine take_ (i := 8) (N := some 65) (v := ?_) (a' := ?_) #[oo,oo,oo,oo,oo,oo,oo,oo,oo,oo,zz,zz,oo,oo,oo,oo,zz,oo,zz,zz,zz,zz,zz,zz,zz,zz] rfl rfl (by kernel_rfl) (fun _ _ _ h => h) (Or.inl ⟨by rfl, ?_⟩) hHeld ?_ ?_
          rotate_left
          ·
           rintro w' ⟨s0, s1⟩
           go_simp
           with_reducible rfl
          rotate_left
          ·
           simp only [Act.put, List.setIfInBounds_toArray, List.set_cons_zero, List.set_cons_succ, i64_w, i32_w]
           rfl
          refine take_ (i := 16) (N := some 73) (v := ?_) (a' := ?_) #[oo,oo,oo,oo,oo,oo,oo,oo,oo,oo,zz,zz,oo,oo,oo,oo,oo,oo,zz,zz,zz,zz,zz,zz,zz,zz] rfl rfl (by kernel_rfl) (fun _ _ _ h => h) (Or.inl ⟨by rfl, ?_⟩) hHeld ?_ ?_
          rotate_left
          ·
           rintro w' ⟨s0, s1⟩
           go_simp
           with_reducible rfl
          rotate_left
          ·
           simp only [Act.put, List.setIfInBounds_toArray, List.set_cons_zero, List.set_cons_succ, i64_w, i32_w]
           rfl
          refine join_ (σ := Value × Value × Value × Value) (fuel' := 6) (l' := #[oo,oo,oo,oo,oo,oo,oo,oo,oo,oo,oo,oo,oo,oo,oo,oo,oo,oo,oo,oo,zz,zz,zz,zz,zz,zz]) (ns := fun s => [(67, s.1), (75, s.2.1), (68, s.2.2.1), (76, s.2.2.2)]) (F := fun s w' => TwoF w wd w' s.2.2.1 s.2.2.2 (.slice A208_5 ((rd_T61 t199 t202).f5).length c208_5) (.slice A2_ ((rd_T61 t199 t203).f5).length c2_) y209 y214) ?hcont ?_
          rotate_left
          ·
           intro hcont_
           have HC_ := HHELD
           refine two_ (i := 10) (j := 18) (Ni := some 67) (Nj := some 75) #[oo,oo,oo,oo,oo,oo,oo,oo,oo,oo,oo,zz,oo,oo,oo,oo,oo,oo,zz,zz,zz,zz,zz,zz,zz,zz] #[oo,oo,oo,oo,oo,oo,oo,oo,oo,oo,zz,zz,oo,oo,oo,oo,oo,oo,oo,zz,zz,zz,zz,zz,zz,zz] rfl rfl rfl rfl (by kernel_rfl) (by decide) (by decide) (fun K hK => ?_) (fun K hK => ?_)
           ·
            refine Kd.R_lit_step (Kd.int .i64) _ 3 ?hg (N := 67) ?hd (xs := [a2]) (inner := [.int .i64 a2]) (ok := fun _ => True) (okp := fun _ => True) ?hr ?hp (fun _ hk => hk) trivial (Below.refl _ _) (Nat.le_refl _) (by simp) ?_; (case hd => rfl); (case hg => rfl); (case hr => first | (go_simp; done) | (go_simp; rfl)); (case hp => exact Reps.snoc (Reps.none _ _) (p := a2) (c := [.int .i64 a2]) rfl rfl)
            intro vb1 wa hob_ hb_ hgb_ hnb_
            obtain ⟨Ab1, cb1, eb_⟩ := Kd.R_slice hob_; subst eb_
            have HX1 := Aside0.mk hob_
            have HA_ := Aside0.mk (HA0.out.box hb_); clear HA0; have HA0 := HA_; clear HA_
            have HCc := Aside0.mk (And.intro ((hb_.cell (World.block_lt_of_cell? _ _ HC_.out.1)).trans HC_.out.1) ((hb_.cell (World.block_lt_of_cell? _ _ HC_.out.2)).trans HC_.out.2)); clear HC_; have HC_ := HCc; clear HCc
            clear hob_ hb_ hgb_ hnb_
            refine hK.out _ _ HC_.out (fun hHeld => ?_)
            clear hK K
            refine norm_ (a' := ?_) ?_ ?_
            rotate_left
            ·
             show Act.put _ (some 67) _ = _
             simp only [Act.put, List.setIfInBounds_toArray, List.set_cons_zero, List.set_cons_succ, i64_w, i32_w]
             rfl
            refine two_ (i := 11) (j := 18) (Ni := some 68) (Nj := some 75) #[oo,oo,oo,oo,oo,oo,oo,oo,oo,oo,oo,oo,oo,oo,oo,oo,oo,oo,zz,zz,zz,zz,zz,zz,zz,zz] #[oo,oo,oo,oo,oo,oo,oo,oo,oo,oo,oo,zz,oo,oo,oo,oo,oo,oo,oo,zz,zz,zz,zz,zz,zz,zz] rfl rfl rfl rfl (by kernel_rfl) (by decide) (by decide) (fun K hK => ?_) (fun K hK => ?_)
            ·
             refine Kd.R_append_rows_step (Kd.int .i64) (w0 := w) w.heap.size (by rfl) (.tmp 65) (.tmp 67) 41 3 (.int .i64 0) 8 rfl Try.underlying41 info3 rfl (by decide) (by omega) (.slice A208_5 ((rd_T61 t199 t202).f5).length c208_5) ((rd_T61 t199 t202).f5) [a2] _ _ _ (fun _ => True) (fun _ => False) rfl rfl ?aO ?aR (fun _ _ h => h) (fun _ h => h.elim) ?aF ?aB ?aS ?aL ?_
             (case aR => exact (Kd.R_reads' HX1.out).2.2)
             (case aB => exact HA0.out.below)
             (case aF => exact (fun _ _ => trivial))
             (case aO => exact HA0.out.r1)
             (case aS => exact HA0.out.below.size)
             (case aL => have := LMc34.out; simp only [List.length_cons, List.length_nil]; omega)
             intro v1 wb ho hb hg hat
             rw [← Ny209.out] at ho
             have HBB := Aside0.mk (HA0.out.append HAP.out ho hb hg hat); clear HA0; have HI := HBB; clear HBB
             have HCc := Aside0.mk (And.intro ((World.cell?_of_block (a := ⟨go43, (t202 : Int).toNat * 6 + 5, none⟩) (hg.block go43 (World.block_lt_of_cell? _ _ HC_.out.1) (fun e => HG1.out go43 e.symm rfl))).trans HC_.out.1) ((World.cell?_of_block (a := ⟨go43, (t203 : Int).toNat * 6 + 5, none⟩) (hg.block go43 (World.block_lt_of_cell? _ _ HC_.out.1) (fun e => HG1.out go43 e.symm rfl))).trans HC_.out.2)); clear HC_; have HC_ := HCc; clear HCc
             clear ho hb hg hat
             refine hK.out _ _ HC_.out (fun hHeld => ?_)
             clear hK K
             refine norm_ (a' := ?_) ?_ ?_
             rotate_left
             ·
              show Act.put _ (some 68) _ = _
              simp only [Act.put, List.setIfInBounds_toArray, List.set_cons_zero, List.set_cons_succ, i64_w, i32_w]
              rfl
             refine one_ (i := 18) (N := some 75) #[oo,oo,oo,oo,oo,oo,oo,oo,oo,oo,oo,oo,oo,oo,oo,oo,oo,oo,oo,zz,zz,zz,zz,zz,zz,zz] rfl rfl (by kernel_rfl) (by decide) (fun K hK => ?_)
             refine Kd.R_lit_step (Kd.int .i64) _ 3 ?hg (N := 75) ?hd (xs := [a1]) (inner := [.int .i64 a1]) (ok := fun _ => True) (okp := fun _ => True) ?hr ?hp (fun _ hk => hk) trivial (Below.refl _ _) (Nat.le_refl _) (by simp) ?_; (case hd => rfl); (case hg => rfl); (case hr => first | (go_simp; done) | (go_simp; rfl)); (case hp => exact Reps.snoc (Reps.none _ _) (p := a1) (c := [.int .i64 a1]) rfl rfl)
             intro vb2 wx hob_ hb_ hgb_ hnb_
             obtain ⟨Ab2, cb2, eb_⟩ := Kd.R_slice hob_; subst eb_
             have HX2 := Aside0.mk hob_
             have HA_ := Aside0.mk (HI.out.box hb_); clear HI; have HI := HA_; clear HA_
             have HCc := Aside0.mk (And.intro ((hb_.cell (World.block_lt_of_cell? _ _ HC_.out.1)).trans HC_.out.1) ((hb_.cell (World.block_lt_of_cell? _ _ HC_.out.2)).trans HC_.out.2)); clear HC_; have HC_ := HCc; clear HCc
             clear hob_ hb_ hgb_ hnb_
             refine hK.out _ _ HC_.out (fun hHeld => ?_)
             clear hK K
             refine norm_ (a' := ?_) ?_ ?_
             rotate_left
             ·
              show Act.put _ (some 75) _ = _
              simp only [Act.put, List.setIfInBounds_toArray, List.set_cons_zero, List.set_cons_succ, i64_w, i32_w]
              rfl
             refine one_ (i := 19) (N := some 76) #[oo,oo,oo,oo,oo,oo,oo,oo,oo,oo,oo,oo,oo,oo,oo,oo,oo,oo,oo,oo,zz,zz,zz,zz,zz,zz] rfl rfl (by kernel_rfl) (by decide) (fun K hK => ?_)
             refine Kd.R_append_rows_step (Kd.int .i64) (w0 := w) w.heap.size (by rfl) (.tmp 73) (.tmp 75) 41 3 (.int .i64 0) 8 rfl Try.underlying41 info3 rfl (by decide) (by omega) (.slice A2_ ((rd_T61 t199 t203).f5).length c2_) ((rd_T61 t199 t203).f5) [a1] _ _ _ (fun _ => True) (fun _ => False) rfl rfl ?aO ?aR (fun _ _ h => h) (fun _ h => h.elim) ?aF ?aB ?aS ?aL ?_
             (case aR => exact (Kd.R_reads' HX2.out).2.2)
             (case aB => exact HI.out.below)
             (case aF => exact (fun _ _ => trivial))
             (case aO => exact HI.out.r2)
             (case aS => exact HI.out.below.size)
             (case aL => have := LMj.out; simp only [List.length_cons, List.length_nil]; omega)
             intro v2 wy ho hb hg hat
             rw [← HY2.out] at ho
             have HFF := Aside0.mk (HI.out.append ho hb hg hat)
             have HCc := Aside0.mk (And.intro ((World.cell?_of_block (a := ⟨go43, (t202 : Int).toNat * 6 + 5, none⟩) (hg.block go43 (World.block_lt_of_cell? _ _ HC_.out.1) (fun e => HG2.out go43 e.symm rfl))).trans HC_.out.1) ((World.cell?_of_block (a := ⟨go43, (t203 : Int).toNat * 6 + 5, none⟩) (hg.block go43 (World.block_lt_of_cell? _ _ HC_.out.1) (fun e => HG2.out go43 e.symm rfl))).trans HC_.out.2)); clear HC_; have HC_ := HCc; clear HCc
             clear ho hb hg hat
             refine hK.out _ _ HC_.out (fun hHeld => ?_)
             clear hK K
             refine norm_ (a' := ?_) ?_ ?_
             rotate_left
             ·
              show Act.put _ (some 76) _ = _
              simp only [Act.put, List.setIfInBounds_toArray, List.set_cons_zero, List.set_cons_succ, i64_w, i32_w]
              rfl
             exact norm_ (by simp only [putAll, Act.put, List.setIfInBounds_toArray, List.set_cons_zero, List.set_cons_succ]; rfl) (hcont_ (.slice (Ab1) 1 cb1, .slice Ab2 1 cb2, v1, v2) _ HFF.out)
            ·
             refine Kd.R_lit_step (Kd.int .i64) _ 3 ?hg (N := 75) ?hd (xs := [a1]) (inner := [.int .i64 a1]) (ok := fun _ => True) (okp := fun _ => True) ?hr ?hp (fun _ hk => hk) trivial (Below.refl _ _) (Nat.le_refl _) (by simp) ?_; (case hd => rfl); (case hg => rfl); (case hr => first | (go_simp; done) | (go_simp; rfl)); (case hp => exact Reps.snoc (Reps.none _ _) (p := a1) (c := [.int .i64 a1]) rfl rfl)
             intro vb2 wb hob_ hb_ hgb_ hnb_
             obtain ⟨Ab2, cb2, eb_⟩ := Kd.R_slice hob_; subst eb_
             have HX2 := Aside0.mk hob_
             have HX1' := Aside0.mk (Kd.R_below HX1.out hb_); clear HX1; have HX1 := HX1'; clear HX1'
             have HD2 := Aside0.mk (show ∀ k, (Value.slice A208_5 ((rd_T61 t199 t202).f5).length c208_5).ownBlock = some k → (Value.slice Ab2 _ cb2).ownBlock ≠ some k from fun k h1 h2 => by have h3_ := Kd.R_lt HA0.out.r1 k h1; have h4_ := Kd.R_base hob_ k h2; omega)
             have HA_ := Aside0.mk (HA0.out.box hb_); clear HA0; have HA0 := HA_; clear HA_
             have HCc := Aside0.mk (And.intro ((hb_.cell (World.block_lt_of_cell? _ _ HC_.out.1)).trans HC_.out.1) ((hb_.cell (World.block_lt_of_cell? _ _ HC_.out.2)).trans HC_.out.2)); clear HC_; have HC_ := HCc; clear HCc
             clear hob_ hb_ hgb_ hnb_
             refine hK.out _ _ HC_.out (fun hHeld => ?_)
             clear hK K
             refine norm_ (a' := ?_) ?_ ?_
             rotate_left
             ·
              show Act.put _ (some 75) _ = _
              simp only [Act.put, List.setIfInBounds_toArray, List.set_cons_zero, List.set_cons_succ, i64_w, i32_w]
              rfl
             refine one_ (i := 11) (N := some 68) #[oo,oo,oo,oo,oo,oo,oo,oo,oo,oo,oo,oo,oo,oo,oo,oo,oo,oo,oo,zz,zz,zz,zz,zz,zz,zz] rfl rfl (by kernel_rfl) (by decide) (fun K hK => ?_)
             refine Kd.R_append_rows_step (Kd.int .i64) (w0 := w) w.heap.size (by rfl) (.tmp 65) (.tmp 67) 41 3 (.int .i64 0) 8 rfl Try.underlying41 info3 rfl (by decide) (by omega) (.slice A208_5 ((rd_T61 t199 t202).f5).length c208_5) ((rd_T61 t199 t202).f5) [a2] _ _ _ (fun _ => True) (fun _ => False) rfl rfl ?aO ?aR (fun _ _ h => h) (fun _ h => h.elim) ?aF ?aB ?aS ?aL ?_
             (case aR => exact (Kd.R_reads' HX1.out).2.2)
             (case aB => exact HA0.out.below)
             (case aF => exact (fun _ _ => trivial))
             (case aO => exact HA0.out.r1)
             (case aS => exact HA0.out.below.size)
             (case aL => have := LMc34.out; simp only [List.length_cons, List.length_nil]; omega)
             intro v1 wx ho hb hg hat
             rw [← Ny209.out] at ho
             have HX2' := Aside0.mk (Kd.R_mono (ok' := fun _ => True) (Kd.R_step (Kd.R_tight rfl HX2.out) (fun k hk hlt => hg.block k hlt (fun e => HD2.out k e.symm hk.symm))) (fun _ _ => trivial)); clear HX2; have HX2 := HX2'; clear HX2'
             have HBB := Aside0.mk (HA0.out.append HAP.out ho hb hg hat); clear HA0; have HI := HBB; clear HBB
             have HCc := Aside0.mk (And.intro ((World.cell?_of_block (a := ⟨go43, (t202 : Int).toNat * 6 + 5, none⟩) (hg.block go43 (World.block_lt_of_cell? _ _ HC_.out.1) (fun e => HG1.out go43 e.symm rfl))).trans HC_.out.1) ((World.cell?_of_block (a := ⟨go43, (t203 : Int).toNat * 6 + 5, none⟩) (hg.block go43 (World.block_lt_of_cell? _ _ HC_.out.1) (fun e => HG1.out go43 e.symm rfl))).trans HC_.out.2)); clear HC_; have HC_ := HCc; clear HCc
             clear ho hb hg hat
             refine hK.out _ _ HC_.out (fun hHeld => ?_)
             clear hK K
             refine norm_ (a' := ?_) ?_ ?_
             rotate_left
             ·
              show Act.put _ (some 68) _ = _
              simp only [Act.put, List.setIfInBounds_toArray, List.set_cons_zero, List.set_cons_succ, i64_w, i32_w]
              rfl
             refine one_ (i := 19) (N := some 76) #[oo,oo,oo,oo,oo,oo,oo,oo,oo,oo,oo,oo,oo,oo,oo,oo,oo,oo,oo,oo,zz,zz,zz,zz,zz,zz] rfl rfl (by kernel_rfl) (by decide) (fun K hK => ?_)
             refine Kd.R_append_rows_step (Kd.int .i64) (w0 := w) w.heap.size (by rfl) (.tmp 73) (.tmp 75) 41 3 (.int .i64 0) 8 rfl Try.underlying41 info3 rfl (by decide) (by omega) (.slice A2_ ((rd_T61 t199 t203).f5).length c2_) ((rd_T61 t199 t203).f5) [a1] _ _ _ (fun _ => True) (fun _ => False) rfl rfl ?aO ?aR (fun _ _ h => h) (fun _ h => h.elim) ?aF ?aB ?aS ?aL ?_
             (case aR => exact (Kd.R_reads' HX2.out).2.2)
             (case aB => exact HI.out.below)
             (case aF => exact (fun _ _ => trivial))
             (case aO => exact HI.out.r2)
             (case aS => exact HI.out.below.size)
             (case aL => have := LMj.out; simp only [List.length_cons, List.length_nil]; omega)
             intro v2 wy ho hb hg hat
             rw [← HY2.out] at ho
             have HFF := Aside0.mk (HI.out.append ho hb hg hat)
             have HCc := Aside0.mk (And.intro ((World.cell?_of_block (a := ⟨go43, (t202 : Int).toNat * 6 + 5, none⟩) (hg.block go43 (World.block_lt_of_cell? _ _ HC_.out.1) (fun e => HG2.out go43 e.symm rfl))).trans HC_.out.1) ((World.cell?_of_block (a := ⟨go43, (t203 : Int).toNat * 6 + 5, none⟩) (hg.block go43 (World.block_lt_of_cell? _ _ HC_.out.1) (fun e => HG2.out go43 e.symm rfl))).trans HC_.out.2)); clear HC_; have HC_ := HCc; clear HCc
             clear ho hb hg hat
             refine hK.out _ _ HC_.out (fun hHeld => ?_)
             clear hK K
             refine norm_ (a' := ?_) ?_ ?_
             rotate_left
             ·
              show Act.put _ (some 76) _ = _
              simp only [Act.put, List.setIfInBounds_toArray, List.set_cons_zero, List.set_cons_succ, i64_w, i32_w]
              rfl
             exact norm_ (by simp only [putAll, Act.put, List.setIfInBounds_toArray, List.set_cons_zero, List.set_cons_succ]; rfl) (hcont_ (.slice (Ab1) 1 cb1, .slice Ab2 1 cb2, v1, v2) _ HFF.out)
           ·
            refine Kd.R_lit_step (Kd.int .i64) _ 3 ?hg (N := 75) ?hd (xs := [a1]) (inner := [.int .i64 a1]) (ok := fun _ => True) (okp := fun _ => True) ?hr ?hp (fun _ hk => hk) trivial (Below.refl _ _) (Nat.le_refl _) (by simp) ?_; (case hd => rfl); (case hg => rfl); (case hr => first | (go_simp; done) | (go_simp; rfl)); (case hp => exact Reps.snoc (Reps.none _ _) (p := a1) (c := [.int .i64 a1]) rfl rfl)
            intro vb2 wa hob_ hb_ hgb_ hnb_
            obtain ⟨Ab2, cb2, eb_⟩ := Kd.R_slice hob_; subst eb_
            have HX2 := Aside0.mk hob_
            have HD2 := Aside0.mk (show ∀ k, (Value.slice A208_5 ((rd_T61 t199 t202).f5).length c208_5).ownBlock = some k → (Value.slice Ab2 _ cb2).ownBlock ≠ some k from fun k h1 h2 => by have h3_ := Kd.R_lt HA0.out.r1 k h1; have h4_ := Kd.R_base hob_ k h2; omega)
            have HA_ := Aside0.mk (HA0.out.box hb_); clear HA0; have HA0 := HA_; clear HA_
            have HCc := Aside0.mk (And.intro ((hb_.cell (World.block_lt_of_cell? _ _ HC_.out.1)).trans HC_.out.1) ((hb_.cell (World.block_lt_of_cell? _ _ HC_.out.2)).trans HC_.out.2)); clear HC_; have HC_ := HCc; clear HCc
            clear hob_ hb_ hgb_ hnb_
            refine hK.out _ _ HC_.out (fun hHeld => ?_)
            clear hK K
            refine norm_ (a' := ?_) ?_ ?_
            rotate_left
            ·
             show Act.put _ (some 75) _ = _
             simp only [Act.put, List.setIfInBounds_toArray, List.set_cons_zero, List.set_cons_succ, i64_w, i32_w]
             rfl
            refine one_ (i := 10) (N := some 67) #[oo,oo,oo,oo,oo,oo,oo,oo,oo,oo,oo,zz,oo,oo,oo,oo,oo,oo,oo,zz,zz,zz,zz,zz,zz,zz] rfl rfl (by kernel_rfl) (by decide) (fun K hK => ?_)
            refine Kd.R_lit_step (Kd.int .i64) _ 3 ?hg (N := 67) ?hd (xs := [a2]) (inner := [.int .i64 a2]) (ok := fun _ => True) (okp := fun _ => True) ?hr ?hp (fun _ hk => hk) trivial (Below.refl _ _) (Nat.le_refl _) (by simp) ?_; (case hd => rfl); (case hg => rfl); (case hr => first | (go_simp; done) | (go_simp; rfl)); (case hp => exact Reps.snoc (Reps.none _ _) (p := a2) (c := [.int .i64 a2]) rfl rfl)
            intro vb1 wb hob_ hb_ hgb_ hnb_
            obtain ⟨Ab1, cb1, eb_⟩ := Kd.R_slice hob_; subst eb_
            have HX1 := Aside0.mk hob_
            have HX2' := Aside0.mk (Kd.R_below HX2.out hb_); clear HX2; have HX2 := HX2'; clear HX2'
            have HA_ := Aside0.mk (HA0.out.box hb_); clear HA0; have HA0 := HA_; clear HA_
            have HCc := Aside0.mk (And.intro ((hb_.cell (World.block_lt_of_cell? _ _ HC_.out.1)).trans HC_.out.1) ((hb_.cell (World.block_lt_of_cell? _ _ HC_.out.2)).trans HC_.out.2)); clear HC_; have HC_ := HCc; clear HCc
            clear hob_ hb_ hgb_ hnb_
            refine hK.out _ _ HC_.out (fun hHeld => ?_)
            clear hK K
            refine norm_ (a' := ?_) ?_ ?_
            rotate_left
            ·
             show Act.put _ (some 67) _ = _
             simp only [Act.put, List.setIfInBounds_toArray, List.set_cons_zero, List.set_cons_succ, i64_w, i32_w]
             rfl
            refine one_ (i := 11) (N := some 68) #[oo,oo,oo,oo,oo,oo,oo,oo,oo,oo,oo,oo,oo,oo,oo,oo,oo,oo,oo,zz,zz,zz,zz,zz,zz,zz] rfl rfl (by kernel_rfl) (by decide) (fun K hK => ?_)
            refine Kd.R_append_rows_step (Kd.int .i64) (w0 := w) w.heap.size (by rfl) (.tmp 65) (.tmp 67) 41 3 (.int .i64 0) 8 rfl Try.underlying41 info3 rfl (by decide) (by omega) (.slice A208_5 ((rd_T61 t199 t202).f5).length c208_5) ((rd_T61 t199 t202).f5) [a2] _ _ _ (fun _ => True) (fun _ => False) rfl rfl ?aO ?aR (fun _ _ h => h) (fun _ h => h.elim) ?aF ?aB ?aS ?aL ?_
            (case aR => exact (Kd.R_reads' HX1.out).2.2)
            (case aB => exact HA0.out.below)
            (case aF => exact (fun _ _ => trivial))
            (case aO => exact HA0.out.r1)
            (case aS => exact HA0.out.below.size)
            (case aL => have := LMc34.out; simp only [List.length_cons, List.length_nil]; omega)
            intro v1 wx ho hb hg hat
            rw [← Ny209.out] at ho
            have HX2' := Aside0.mk (Kd.R_mono (ok' := fun _ => True) (Kd.R_step (Kd.R_tight rfl HX2.out) (fun k hk hlt => hg.block k hlt (fun e => HD2.out k e.symm hk.symm))) (fun _ _ => trivial)); clear HX2; have HX2 := HX2'; clear HX2'
            have HBB := Aside0.mk (HA0.out.append HAP.out ho hb hg hat); clear HA0; have HI := HBB; clear HBB
            have HCc := Aside0.mk (And.intro ((World.cell?_of_block (a := ⟨go43, (t202 : Int).toNat * 6 + 5, none⟩) (hg.block go43 (World.block_lt_of_cell? _ _ HC_.out.1) (fun e => HG1.out go43 e.symm rfl))).trans HC_.out.1) ((World.cell?_of_block (a := ⟨go43, (t203 : Int).toNat * 6 + 5, none⟩) (hg.block go43 (World.block_lt_of_cell? _ _ HC_.out.1) (fun e => HG1.out go43 e.symm rfl))).trans HC_.out.2)); clear HC_; have HC_ := HCc; clear HCc
            clear ho hb hg hat
            refine hK.out _ _ HC_.out (fun hHeld => ?_)
            clear hK K
            refine norm_ (a' := ?_) ?_ ?_
            rotate_left
            ·
             show Act.put _ (some 68) _ = _
             simp only [Act.put, List.setIfInBounds_toArray, List.set_cons_zero, List.set_cons_succ, i64_w, i32_w]
             rfl
            refine one_ (i := 19) (N := some 76) #[oo,oo,oo,oo,oo,oo,oo,oo,oo,oo,oo,oo,oo,oo,oo,oo,oo,oo,oo,oo,zz,zz,zz,zz,zz,zz] rfl rfl (by kernel_rfl) (by decide) (fun K hK => ?_)
            refine Kd.R_append_rows_step (Kd.int .i64) (w0 := w) w.heap.size (by rfl) (.tmp 73) (.tmp 75) 41 3 (.int .i64 0) 8 rfl Try.underlying41 info3 rfl (by decide) (by omega) (.slice A2_ ((rd_T61 t199 t203).f5).length c2_) ((rd_T61 t199 t203).f5) [a1] _ _ _ (fun _ => True) (fun _ => False) rfl rfl ?aO ?aR (fun _ _ h => h) (fun _ h => h.elim) ?aF ?aB ?aS ?aL ?_
            (case aR => exact (Kd.R_reads' HX2.out).2.2)
            (case aB => exact HI.out.below)
            (case aF => exact (fun _ _ => trivial))
            (case aO => exact HI.out.r2)
            (case aS => exact HI.out.below.size)
            (case aL => have := LMj.out; simp only [List.length_cons, List.length_nil]; omega)
            intro v2 wy ho hb hg hat
            rw [← HY2.out] at ho
            have HFF := Aside0.mk (HI.out.append ho hb hg hat)
            have HCc := Aside0.mk (And.intro ((World.cell?_of_block (a := ⟨go43, (t202 : Int).toNat * 6 + 5, none⟩) (hg.block go43 (World.block_lt_of_cell? _ _ HC_.out.1) (fun e => HG2.out go43 e.symm rfl))).trans HC_.out.1) ((World.cell?_of_block (a := ⟨go43, (t203 : Int).toNat * 6 + 5, none⟩) (hg.block go43 (World.block_lt_of_cell? _ _ HC_.out.1) (fun e => HG2.out go43 e.symm rfl))).trans HC_.out.2)); clear HC_; have HC_ := HCc; clear HCc
            clear ho hb hg hat
            refine hK.out _ _ HC_.out (fun hHeld => ?_)
            clear hK K
            refine norm_ (a' := ?_) ?_ ?_
            rotate_left
            ·
             show Act.put _ (some 76) _ = _
             simp only [Act.put, List.setIfInBounds_toArray, List.set_cons_zero, List.set_cons_succ, i64_w, i32_w]
             rfl
            exact norm_ (by simp only [putAll, Act.put, List.setIfInBounds_toArray, List.set_cons_zero, List.set_cons_succ]; rfl) (hcont_ (.slice (Ab1) 1 cb1, .slice Ab2 1 cb2, v1, v2) _ HFF.out)
          case hcont => 
           rintro ⟨vb1, vb2, v1, v2⟩ w50 hF_
           obtain ⟨B1_, d1_, e1_⟩ := Kd.R_slice hF_.r1; simp only at e1_; subst e1_
           obtain ⟨B2_, d2_, e2_⟩ := Kd.R_slice hF_.r2; simp only at e2_; subst e2_
           have hT_ := two_met HO_14.out (of_eq_true p208) (of_eq_true q208) (of_eq_true pj_) (of_eq_true qj_) HNE.out HHELD.out.1 HHELD.out.2 hF_.keep hF_.r1 hF_.r2 hF_.h1 hF_.h2
           obtain ⟨tc1_, tf1_, tc2_, tf2_, tS_⟩ := hT_
           have HTS := Aside0.mk tS_; have HFB := Aside0.mk hF_.below; clear tS_ hF_
           refine norm_ (a' := ?_) ?_ ?_
           rotate_left
           ·
            simp only [putAll, Act.put, List.setIfInBounds_toArray, List.set_cons_zero, List.set_cons_succ]
            rfl
           refine pure_ (i := 20) (N := some 77) (v := ?_) (a' := ?_) #[oo,oo,oo,oo,oo,oo,oo,oo,oo,oo,oo,oo,oo,oo,oo,oo,oo,oo,oo,oo,oo,zz,zz,zz,zz,zz] rfl rfl (by kernel_rfl) (fun _ _ _ h => h) (Or.inl ⟨by rfl, ?_⟩) ?_ ?_
           rotate_left
           ·
            intro w'
            go_simp
            with_reducible rfl
           rotate_left
           ·
            simp only [Act.put, List.setIfInBounds_toArray, List.set_cons_zero, List.set_cons_succ, i64_w, i32_w]
            rfl
           refine pure_ (i := 21) (N := some 78) (v := ?_) (a' := ?_) #[oo,oo,oo,oo,oo,oo,oo,oo,oo,oo,oo,oo,oo,oo,oo,oo,oo,oo,oo,oo,oo,oo,zz,zz,zz,zz] rfl rfl (by kernel_rfl) (fun _ _ _ h => h) (Or.inl ⟨by rfl, ?_⟩) ?_ ?_
           rotate_left
           ·
            intro w'
            go_simp
            with_reducible rfl
           rotate_left
           ·
            simp only [Act.put, List.setIfInBounds_toArray, List.set_cons_zero, List.set_cons_succ, i64_w, i32_w]
            rfl
           refine last_ (i := 22) (N := none) #[oo,oo,oo,oo,oo,oo,oo,oo,oo,oo,oo,oo,oo,oo,oo,oo,oo,oo,oo,oo,oo,oo,oo,zz,zz,zz] rfl rfl (by kernel_rfl) (by decide) (fun K hK => ?_)
           refine store_step (w1 := (w50.setCell ⟨go43, (t202 : Int).toNat * 6 + 5, none⟩ (.slice B1_ y209.length d1_))) (by rfl) rfl ?hr ?_; (case hr => first | (go_simp; done) | (go_simp; rfl))
           refine hK.out _ _ ?_
           clear hK K
           refine pure_ (i := 23) (N := some 79) (v := ?_) (a' := ?_) #[oo,oo,oo,oo,oo,oo,oo,oo,oo,oo,oo,oo,oo,oo,oo,oo,oo,oo,oo,oo,oo,oo,oo,oo,zz,zz] rfl rfl (by kernel_rfl) (fun _ _ _ h => h) (Or.inl ⟨by rfl, ?_⟩) ?_ ?_
           rotate_left
           ·
            intro w'
            go_simp
            with_reducible rfl
           rotate_left
           ·
            simp only [Act.put, List.setIfInBounds_toArray, List.set_cons_zero, List.set_cons_succ, i64_w, i32_w]
            rfl
           refine pure_ (i := 24) (N := some 80) (v := ?_) (a' := ?_) #[oo,oo,oo,oo,oo,oo,oo,oo,oo,oo,oo,oo,oo,oo,oo,oo,oo,oo,oo,oo,oo,oo,oo,oo,oo,zz] rfl rfl (by kernel_rfl) (fun _ _ _ h => h) (Or.inl ⟨by rfl, ?_⟩) ?_ ?_
           rotate_left
           ·
            intro w'
            go_simp
            with_reducible rfl
           rotate_left
           ·
            simp only [Act.put, List.setIfInBounds_toArray, List.set_cons_zero, List.set_cons_succ, i64_w, i32_w]
            rfl
           refine last_ (i := 25) (N := none) #[oo,oo,oo,oo,oo,oo,oo,oo,oo,oo,oo,oo,oo,oo,oo,oo,oo,oo,oo,oo,oo,oo,oo,oo,oo,oo] rfl rfl (by kernel_rfl) (by decide) (fun K hK => ?_)
           refine store_step (w1 := ((w50.setCell ⟨go43, (t202 : Int).toNat * 6 + 5, none⟩ (.slice B1_ y209.length d1_)).setCell ⟨go43, (t203 : Int).toNat * 6 + 5, none⟩ (.slice B2_ y214.length d2_))) (by rfl) rfl ?hr ?_; (case hr => first | (go_simp; done) | (go_simp; rfl))
           refine hK.out _ _ ?_
           clear hK K
           refine done_ (by kernel_rfl) ?_
           have HBn := Aside0.mk (show Below w.heap.size w ((w50.setCell ⟨go43, (t202 : Int).toNat * 6 + 5, none⟩ (.slice B1_ y209.length d1_)).setCell ⟨go43, (t203 : Int).toNat * 6 + 5, none⟩ (.slice B2_ y214.length d2_)) from below_set (below_set HFB.out hBG.out) hBG.out)
           have hS4_ : Kd.S k61 61 ((w50.setCell ⟨go43, (t202 : Int).toNat * 6 + 5, none⟩ (.slice B1_ y209.length d1_)).setCell ⟨go43, (t203 : Int).toNat * 6 + 5, none⟩ (.slice B2_ y214.length d2_)) w.heap.size (fun _ => True) (.slice (some ⟨go43, 0, none⟩) t199.length co42) y217 := by rw [Ny217.out, Ny212.out]; exact HTS.out
           have HOn := Aside0.mk hS4_
           clear hS4_ HTS HFB tc1_ tf1_ tc2_ tf2_ HO_14 HB
           generalize ((w50.setCell ⟨go43, (t202 : Int).toNat * 6 + 5, none⟩ (.slice B1_ y209.length d1_)).setCell ⟨go43, (t203 : Int).toNat * 6 + 5, none⟩ (.slice B2_ y214.length d2_)) = w51 at HBn HOn ⊢
           have HO_14 := HOn; have HB := HBn; clear HOn HBn HHELD hHeld HA0 HAP HG1 HG2 pj_ qj_ hBG hLG LMj HY2 HNE
           (have p218 : 0 ≤ (t202 : Int) := of_decide_eq_true (by first | (with_reducible assumption) | assumption); have q218 : t202 < (y217.length : Int) := (by have h_ : (t202 : Int) < ((t199.length : Int) : Int) := of_decide_eq_true (by first | (with_reducible assumption) | assumption); first | (have e_ := (Kd.S_reads' HO_14.out).1; omega) | simpa only [Ny212.out, Ny217.out, List.length_set] using h_); have ql218 : ((t202 : Int) < ((t199.length : Int) : Int)) = True := eq_true (of_decide_eq_true (by first | (with_reducible assumption) | assumption)); obtain ⟨ad218, A218_5, c218_5, e218, hx218_0, hx218_1, hx218_2, hx218_3, hx218_4, hx218_5, hl218_5, hi218_5⟩ := at_T61 (Kd.S_reads' HO_14.out).2.2 t202 p218 q218; obtain rfl : (⟨go43, 0, none⟩ : Addr) = ad218 := (by injection e218); obtain ⟨ce218, hce218, hMe218, hcc218⟩ := Kd.S_get HO_14.out z61 t202 p218 (by first | exact q218 | exact of_decide_eq_true (by first | (with_reducible assumption) | assumption) | (have e_ := (Kd.S_reads' HO_14.out).1; omega)); obtain ⟨ve218_5, rfl, ge218_5⟩ := k61_openM hMe218; have hv218_5 := hcc218 5 _ rfl; rw [add_field _ _ 5 (by omega)] at hv218_5; replace hv218_5 := Option.some.inj (hv218_5.symm.trans hx218_5); rw [hv218_5] at ge218_5; have HL218_5 := Aside0.mk (show Kd.R (Kd.int .i64) 3 _ _ _ _ ((rd_T61 y217 t202).f5) from ge218_5); clear hv218_5 ge218_5; have HX218_5 := Aside0.mk hx218_5; clear hcc218 hce218; (first | simp only [add_plain] at hx218_0 | simp only [add_at] at hx218_0 | simp only [Addr.add, Nat.zero_add] at hx218_0 | skip); (first | simp only [add_plain] at hx218_1 | simp only [add_at] at hx218_1 | simp only [Addr.add, Nat.zero_add] at hx218_1 | skip); (first | simp only [add_plain] at hx218_2 | simp only [add_at] at hx218_2 | simp only [Addr.add, Nat.zero_add] at hx218_2 | skip); (first | simp only [add_plain] at hx218_3 | simp only [add_at] at hx218_3 | simp only [Addr.add, Nat.zero_add] at hx218_3 | skip); (first | simp only [add_plain] at hx218_4 | simp only [add_at] at hx218_4 | simp only [Addr.add, Nat.zero_add] at hx218_4 | skip); (first | simp only [add_plain] at hx218_5 | simp only [add_at] at hx218_5 | simp only [Addr.add, Nat.zero_add] at hx218_5 | skip); have HR218_5 := Aside0.mk hi218_5; have HC218_5 := Aside0.mk hl218_5; clear hi218_5 hl218_5; replace p218 := eq_true p218; replace q218 := eq_true q218; have p40 : 0 ≤ (t202 : Int) := of_decide_eq_true (by first | (with_reducible assumption) | assumption); have q40 : (t202 : Int) < ((t199.length : Int) : Int) := of_decide_eq_true (by first | (with_reducible assumption) | assumption); obtain ⟨_, ce40, hcl40, hM40, hcc40, hfr40, _, _⟩ := Kd.S_elem HO_14.out z61 (t202 : Int) p40 q40; obtain ⟨ve40_5, rfl, ge40_5⟩ := k61_openM hM40; have hx40_0 : w51.cell? ⟨go43, (t202 : Int).toNat * 6, none⟩ = some (.int .i64 ((rd_T61 y217 t202).f0)) := hcc40 0 _ rfl; have hx40_1 : w51.cell? ⟨go43, (t202 : Int).toNat * 6 + 1, none⟩ = some (.int .i64 ((rd_T61 y217 t202).f1)) := hcc40 1 _ rfl; have hx40_2 : w51.cell? ⟨go43, (t202 : Int).toNat * 6 + 2, none⟩ = some (.int .i64 ((rd_T61 y217 t202).f2)) := hcc40 2 _ rfl; have hx40_3 : w51.cell? ⟨go43, (t202 : Int).toNat * 6 + 3, none⟩ = some (.int .i64 ((rd_T61 y217 t202).f3)) := hcc40 3 _ rfl; have hx40_4 : w51.cell? ⟨go43, (t202 : Int).toNat * 6 + 4, none⟩ = some (.int .i64 ((rd_T61 y217 t202).f4)) := hcc40 4 _ rfl; have hx40_5 : w51.cell? ⟨go43, (t202 : Int).toNat * 6 + 5, none⟩ = some (ve40_5) := hcc40 5 _ rfl; have hf40_0 : w51.frozen? ⟨go43, (t202 : Int).toNat * 6, none⟩ = false := hfr40 0; have hf40_1 : w51.frozen? ⟨go43, (t202 : Int).toNat * 6 + 1, none⟩ = false := hfr40 1; have hf40_2 : w51.frozen? ⟨go43, (t202 : Int).toNat * 6 + 2, none⟩ = false := hfr40 2; have hf40_3 : w51.frozen? ⟨go43, (t202 : Int).toNat * 6 + 3, none⟩ = false := hfr40 3; have hf40_4 : w51.frozen? ⟨go43, (t202 : Int).toNat * 6 + 4, none⟩ = false := hfr40 4; have hf40_5 : w51.frozen? ⟨go43, (t202 : Int).toNat * 6 + 5, none⟩ = false := hfr40 5; clear hcl40 hcc40 hfr40 hM40; replace p40 := eq_true p40; replace q40 := eq_true q40; have HX53 := Aside0.mk (show Kd.S k61 61 w51 w.heap.size (fun k_ => ((fun _ => True)) k_ ∧ ¬ ((fun _ => False)) k_) (.slice (some ⟨go43, 0, none⟩) t199.length co42) y217 from (by (with_reducible repeat (first | apply Kd.S_alloc | apply Kd.S_drewN | apply Kd.S_drew)); exact Kd.S_mono HO_14.out (fun k_ hk => ⟨trivial, fun e_ => e_⟩))); obtain ⟨oki53, ce53, hcl53, hM53, hcc53, hfr53, hoki53, hH53⟩ := Kd.S_elem HX53.out z61 (t202 : Int) (of_decide_eq_true (by first | (with_reducible assumption) | assumption)) (by have h_ : (t202 : Int) < ((t199.length : Int) : Int) := of_decide_eq_true (by first | (with_reducible assumption) | assumption); first | exact h_ | (have e_ := (Kd.S_reads' HO_14.out).1; omega) | simpa using h_); obtain ⟨ve53_5, rfl, ge53_5⟩ := k61_openM hM53; have HP53 := Kd.S_seg hH53 (of_decide_eq_true (by first | (with_reducible assumption) | assumption)) (by have h_ : (t202 : Int) < ((t199.length : Int) : Int) := of_decide_eq_true (by first | (with_reducible assumption) | assumption); first | exact h_ | (have e_ := (Kd.S_reads' HO_14.out).1; omega) | simpa using h_) (seg := [.int .i64 (wrap64 (((rd_T61 y217 t202).f4) + 1))]) (j := 4) (show 5 ≤ 6 from by decide) (x' := (⟨(rd_T61 y217 t202).f0, (rd_T61 y217 t202).f1, (rd_T61 y217 t202).f2, (rd_T61 y217 t202).f3, wrap64 (((rd_T61 y217 t202).f4) + 1), (rd_T61 y217 t202).f5⟩ : S61)) (k61_mkM _ _ _ (⟨(rd_T61 y217 t202).f0, (rd_T61 y217 t202).f1, (rd_T61 y217 t202).f2, (rd_T61 y217 t202).f3, wrap64 (((rd_T61 y217 t202).f4) + 1), (rd_T61 y217 t202).f5⟩ : S61) (Kd.R_mono ge53_5 (fun _ h_ => Or.inl h_))) (fun _ hk => hk) (fun k_ hk_ => hk_.elim); have hx53_4 := hcc53 4 _ rfl; (try simp only [show (k61).sz = 6 from rfl, Nat.mul_one, Nat.add_zero] at hx53_4); have hf53_4 := hfr53 4; (try simp only [show (k61).sz = 6 from rfl, Nat.mul_one, Nat.add_zero] at hf53_4); clear hcl53 hcc53 hfr53 hM53 hoki53 hH53)
           go_upto_if 90 with (first | ((with_reducible refine gate_store (t := 3) (p := 88) rfl ?_); refine store_event (t := 3) (p := 88) (v := ?vo_w54) (w1 := (w51.setCell ⟨go43, (t202 : Int).toNat * 6 + 4, none⟩ (.int .i64 (wrap64 (((rd_T61 y217 t202).f4) + 1))))) ?hg ?ho ?hn ?hr ?_; (case ho => rfl); (case hg => rfl); (case hn => rfl); (case hr => first | (go_simp; done) | (go_simp; rfl)); intro w54 hw; have hg : w51.grownBy w54 (some go43) := (by rw [hw]; exact HP53.2); have hp_ : Kd.S k61 61 w54 w.heap.size (fun _ => True) (.slice (some ⟨go43, 0, none⟩) t199.length co42) y219 := (by rw [hw, Ny219.out]; exact HP53.1); clear HP53; have n0_ := Aside0.mk (hp_); have n1_ := Aside0.mk (Kd.R_after (v := (.slice (some ⟨go43, 0, none⟩) t199.length co42)) (v1 := (.slice (some ⟨go43, 0, none⟩) t199.length co42)) (ok := (fun _ => True)) (by (with_reducible repeat (first | apply Kd.R_alloc | apply Kd.R_drewN | apply Kd.R_drew)); exact HL218_5.out) hg (.inl rfl)); have n2_ := Aside0.mk ((by rw [hw]; exact below_set (HB.out) GB43.out : Below w.heap.size w w54)); clear HO_14; clear HL218_5; clear HB; have HO_14 := n0_; have HL218_5 := n1_; have HB := n2_; clear n0_ n1_ n2_; clear hg hw hp_))
           (try simp only [Act.put, List.setIfInBounds_toArray, List.set_cons_zero, List.set_cons_succ])
           go_cut [] (fun wc => ∃ (kq : Nat) (x14_40 : List (S61)), Aside0 (impl_AddResult.j1 kq l0 a4 a5 x14_40 t202 t203 = some (r1, r2)) ∧ Aside0 (kq ≤ kj9) ∧ Aside0 (Kd.S k61 61 wc w.heap.size (fun _ => True) (.slice (some ⟨go43, 0, none⟩) t199.length co42) x14_40) ∧ Aside0 (Below w.heap.size w wc))
           case first =>
            have H := HC41.out
            clear HC41
            by_cases c55 : a3 = 1
            ·
             rw [if_pos c55] at H
             have c55b0 : (a3 == 1) = true := beq_iff_eq.mpr c55
             have c55b1 : (a3 != 1) = false := bne_eq_false_iff_eq.mpr c55
             clear c55
             (first | rw [c55b0] | (simp only [i64_w, i32_w]; rw [c55b0]) | skip)
             obtain ⟨y221, hy221⟩ : ∃ y_ : List (S61), y_ = (y219.set (t202 : Int).toNat (⟨(rd_T61 y219 t202).f0, (rd_T61 y219 t202).f1, wrap64 (((rd_T61 y219 t202).f2) + 1), (rd_T61 y219 t202).f3, (rd_T61 y219 t202).f4, (rd_T61 y219 t202).f5⟩ : S61)) := ⟨_, rfl⟩
             replace H : (impl_AddResult.j1 kj9 l0 a4 a5 y221 t202 t203) = some (r1, r2) := by first | (rw [hy221]; with_reducible exact H) | (have H2_ := (Option.bind_some _ _).symm.trans H; rw [hy221]; with_reducible exact H2_) | (have H2_ := (Option.bind_some _ _).symm.trans H; with_reducible exact H2_) | with_reducible exact H | (rw [hy221]; exact H) | exact H
             have Ny221 := Aside0.mk hy221
             clear hy221
             have H' := Aside0.mk H
             clear H
             have p220 : 0 ≤ (t202 : Int) := of_decide_eq_true (by first | (with_reducible assumption) | assumption)
             have q220 : t202 < (y219.length : Int) := (by have h_ : (t202 : Int) < ((t199.length : Int) : Int) := of_decide_eq_true (by first | (with_reducible assumption) | assumption); first | (have e_ := (Kd.S_reads' HO_14.out).1; omega) | simpa only [Ny212.out, Ny217.out, Ny219.out, List.length_set] using h_)
             have ql220 : ((t202 : Int) < ((t199.length : Int) : Int)) = True := eq_true (of_decide_eq_true (by first | (with_reducible assumption) | assumption))
             obtain ⟨ad220, A220_5, c220_5, e220, hx220_0, hx220_1, hx220_2, hx220_3, hx220_4, hx220_5, hl220_5, hi220_5⟩ := at_T61 (Kd.S_reads' HO_14.out).2.2 t202 p220 q220
             obtain rfl : (⟨go43, 0, none⟩ : Addr) = ad220 := (by injection e220)
             obtain ⟨ce220, hce220, hMe220, hcc220⟩ := Kd.S_get HO_14.out z61 t202 p220 (by first | exact q220 | exact of_decide_eq_true (by first | (with_reducible assumption) | assumption) | (have e_ := (Kd.S_reads' HO_14.out).1; omega))
             obtain ⟨ve220_5, rfl, ge220_5⟩ := k61_openM hMe220
             have hv220_5 := hcc220 5 _ rfl
             rw [add_field _ _ 5 (by omega)] at hv220_5
             replace hv220_5 := Option.some.inj (hv220_5.symm.trans hx220_5)
             rw [hv220_5] at ge220_5
             have HL220_5 := Aside0.mk (show Kd.R (Kd.int .i64) 3 _ _ _ _ ((rd_T61 y219 t202).f5) from ge220_5)
             clear hv220_5 ge220_5
             have HX220_5 := Aside0.mk hx220_5
             clear hcc220 hce220
             (first | simp only [add_plain] at hx220_0 | simp only [add_at] at hx220_0 | simp only [Addr.add, Nat.zero_add] at hx220_0 | skip)
             (first | simp only [add_plain] at hx220_1 | simp only [add_at] at hx220_1 | simp only [Addr.add, Nat.zero_add] at hx220_1 | skip)
             (first | simp only [add_plain] at hx220_2 | simp only [add_at] at hx220_2 | simp only [Addr.add, Nat.zero_add] at hx220_2 | skip)
             (first | simp only [add_plain] at hx220_3 | simp only [add_at] at hx220_3 | simp only [Addr.add, Nat.zero_add] at hx220_3 | skip)
             (first | simp only [add_plain] at hx220_4 | simp only [add_at] at hx220_4 | simp only [Addr.add, Nat.zero_add] at hx220_4 | skip)
             (first | simp only [add_plain] at hx220_5 | simp only [add_at] at hx220_5 | simp only [Addr.add, Nat.zero_add] at hx220_5 | skip)
             have HR220_5 := Aside0.mk hi220_5
             have HC220_5 := Aside0.mk hl220_5
             clear hi220_5 hl220_5
             replace p220 := eq_true p220
             replace q220 := eq_true q220
             have p56 : 0 ≤ (t202 : Int) := of_decide_eq_true (by first | (with_reducible assumption) | assumption)
             have q56 : (t202 : Int) < ((t199.length : Int) : Int) := of_decide_eq_true (by first | (with_reducible assumption) | assumption)
             obtain ⟨_, ce56, hcl56, hM56, hcc56, hfr56, _, _⟩ := Kd.S_elem HO_14.out z61 (t202 : Int) p56 q56
             obtain ⟨ve56_5, rfl, ge56_5⟩ := k61_openM hM56
             have hx56_0 : w54.cell? ⟨go43, (t202 : Int).toNat * 6, none⟩ = some (.int .i64 ((rd_T61 y219 t202).f0)) := hcc56 0 _ rfl
             have hx56_1 : w54.cell? ⟨go43, (t202 : Int).toNat * 6 + 1, none⟩ = some (.int .i64 ((rd_T61 y219 t202).f1)) := hcc56 1 _ rfl
             have hx56_2 : w54.cell? ⟨go43, (t202 : Int).toNat * 6 + 2, none⟩ = some (.int .i64 ((rd_T61 y219 t202).f2)) := hcc56 2 _ rfl
             have hx56_3 : w54.cell? ⟨go43, (t202 : Int).toNat * 6 + 3, none⟩ = some (.int .i64 ((rd_T61 y219 t202).f3)) := hcc56 3 _ rfl
             have hx56_4 : w54.cell? ⟨go43, (t202 : Int).toNat * 6 + 4, none⟩ = some (.int .i64 ((rd_T61 y219 t202).f4)) := hcc56 4 _ rfl
             have hx56_5 : w54.cell? ⟨go43, (t202 : Int).toNat * 6 + 5, none⟩ = some (ve56_5) := hcc56 5 _ rfl
             have hf56_0 : w54.frozen? ⟨go43, (t202 : Int).toNat * 6, none⟩ = false := hfr56 0
             have hf56_1 : w54.frozen? ⟨go43, (t202 : Int).toNat * 6 + 1, none⟩ = false := hfr56 1
             have hf56_2 : w54.frozen? ⟨go43, (t202 : Int).toNat * 6 + 2, none⟩ = false := hfr56 2
             have hf56_3 : w54.frozen? ⟨go43, (t202 : Int).toNat * 6 + 3, none⟩ = false := hfr56 3
             have hf56_4 : w54.frozen? ⟨go43, (t202 : Int).toNat * 6 + 4, none⟩ = false := hfr56 4
             have hf56_5 : w54.frozen? ⟨go43, (t202 : Int).toNat * 6 + 5, none⟩ = false := hfr56 5
             clear hcl56 hcc56 hfr56 hM56
             replace p56 := eq_true p56
             replace q56 := eq_true q56
             have HX57 := Aside0.mk (show Kd.S k61 61 w54 w.heap.size (fun k_ => ((fun _ => True)) k_ ∧ ¬ ((fun _ => False)) k_) (.slice (some ⟨go43, 0, none⟩) t199.length co42) y219 from (by (with_reducible repeat (first | apply Kd.S_alloc | apply Kd.S_drewN | apply Kd.S_drew)); exact Kd.S_mono HO_14.out (fun k_ hk => ⟨trivial, fun e_ => e_⟩)))
             obtain ⟨oki57, ce57, hcl57, hM57, hcc57, hfr57, hoki57, hH57⟩ := Kd.S_elem HX57.out z61 (t202 : Int) (of_decide_eq_true (by first | (with_reducible assumption) | assumption)) (by have h_ : (t202 : Int) < ((t199.length : Int) : Int) := of_decide_eq_true (by first | (with_reducible assumption) | assumption); first | exact h_ | (have e_ := (Kd.S_reads' HO_14.out).1; omega) | simpa using h_)
             obtain ⟨ve57_5, rfl, ge57_5⟩ := k61_openM hM57
             have HP57 := Kd.S_seg hH57 (of_decide_eq_true (by first | (with_reducible assumption) | assumption)) (by have h_ : (t202 : Int) < ((t199.length : Int) : Int) := of_decide_eq_true (by first | (with_reducible assumption) | assumption); first | exact h_ | (have e_ := (Kd.S_reads' HO_14.out).1; omega) | simpa using h_) (seg := [.int .i64 (wrap64 (((rd_T61 y219 t202).f2) + 1))]) (j := 2) (show 3 ≤ 6 from by decide) (x' := (⟨(rd_T61 y219 t202).f0, (rd_T61 y219 t202).f1, wrap64 (((rd_T61 y219 t202).f2) + 1), (rd_T61 y219 t202).f3, (rd_T61 y219 t202).f4, (rd_T61 y219 t202).f5⟩ : S61)) (k61_mkM _ _ _ (⟨(rd_T61 y219 t202).f0, (rd_T61 y219 t202).f1, wrap64 (((rd_T61 y219 t202).f2) + 1), (rd_T61 y219 t202).f3, (rd_T61 y219 t202).f4, (rd_T61 y219 t202).f5⟩ : S61) (Kd.R_mono ge57_5 (fun _ h_ => Or.inl h_))) (fun _ hk => hk) (fun k_ hk_ => hk_.elim)
             have hx57_2 := hcc57 2 _ rfl
             (try simp only [show (k61).sz = 6 from rfl, Nat.mul_one, Nat.add_zero] at hx57_2)
             have hf57_2 := hfr57 2
             (try simp only [show (k61).sz = 6 from rfl, Nat.mul_one, Nat.add_zero] at hf57_2)
             clear hcl57 hcc57 hfr57 hM57 hoki57 hH57
             go_wp2_with (first | ((with_reducible refine gate_store (t := 3) (p := 98) rfl ?_); refine store_event (t := 3) (p := 98) (v := ?vo_w58) (w1 := (w54.setCell ⟨go43, (t202 : Int).toNat * 6 + 2, none⟩ (.int .i64 (wrap64 (((rd_T61 y219 t202).f2) + 1))))) ?hg ?ho ?hn ?hr ?_; (case ho => rfl); (case hg => rfl); (case hn => rfl); (case hr => first | (go_simp; done) | (go_simp; rfl)); intro w58 hw; have hg : w54.grownBy w58 (some go43) := (by rw [hw]; exact HP57.2); have hp_ : Kd.S k61 61 w58 w.heap.size (fun _ => True) (.slice (some ⟨go43, 0, none⟩) t199.length co42) y221 := (by rw [hw, Ny221.out]; exact HP57.1); clear HP57; have n0_ := Aside0.mk (hp_); have n1_ := Aside0.mk (Kd.R_after (v := (.slice (some ⟨go43, 0, none⟩) t199.length co42)) (v1 := (.slice (some ⟨go43, 0, none⟩) t199.length co42)) (ok := (fun _ => True)) (by (with_reducible repeat (first | apply Kd.R_alloc | apply Kd.R_drewN | apply Kd.R_drew)); exact HL218_5.out) hg (.inl rfl)); have n2_ := Aside0.mk (Kd.R_after (v := (.slice (some ⟨go43, 0, none⟩) t199.length co42)) (v1 := (.slice (some ⟨go43, 0, none⟩) t199.length co42)) (ok := (fun _ => True)) (by (with_reducible repeat (first | apply Kd.R_alloc | apply Kd.R_drewN | apply Kd.R_drew)); exact HL220_5.out) hg (.inl rfl)); have n3_ := Aside0.mk ((by rw [hw]; exact below_set (HB.out) GB43.out : Below w.heap.size w w58)); clear HO_14; clear HL218_5; clear HL220_5; clear HB; have HO_14 := n0_; have HL218_5 := n1_; have HL220_5 := n2_; have HB := n3_; clear n0_ n1_ n2_ n3_; clear hg hw hp_))
             go_meet
             case rel => exact ⟨_, (y221), H', ⟨by have := HJ9.out; first | omega | exact Nat.le_refl _⟩, ⟨by (with_reducible repeat (first | apply Kd.S_alloc | apply Kd.S_drewN | apply Kd.S_drew)); exact HO_14.out⟩, ⟨by repeat (first | (with_reducible first | exact HB.out | apply below_alloc | apply pw_below_drewN | apply below_drew1) | exact HB.out)⟩⟩
            ·
             rw [if_neg c55] at H
             have c55b0 : (a3 == 1) = false := beq_eq_false_iff_ne.mpr c55
             have c55b1 : (a3 != 1) = true := bne_iff_ne.mpr c55
             (first | rw [c55b0] | (simp only [i64_w, i32_w]; rw [c55b0]) | skip)
             obtain ⟨y223, hy223⟩ : ∃ y_ : List (S61), y_ = (y219.set (t203 : Int).toNat (⟨(rd_T61 y219 t203).f0, (rd_T61 y219 t203).f1, wrap64 (((rd_T61 y219 t203).f2) + 1), (rd_T61 y219 t203).f3, (rd_T61 y219 t203).f4, (rd_T61 y219 t203).f5⟩ : S61)) := ⟨_, rfl⟩
             replace H : (impl_AddResult.j1 kj9 l0 a4 a5 y223 t202 t203) = some (r1, r2) := by first | (rw [hy223]; with_reducible exact H) | (have H2_ := (Option.bind_some _ _).symm.trans H; rw [hy223]; with_reducible exact H2_) | (have H2_ := (Option.bind_some _ _).symm.trans H; with_reducible exact H2_) | with_reducible exact H | (rw [hy223]; exact H) | exact H
             have Ny223 := Aside0.mk hy223
             clear hy223
             have H' := Aside0.mk H
             clear H
             have p222 : 0 ≤ (t203 : Int) := of_decide_eq_true (by first | (with_reducible assumption) | assumption)
             have q222 : t203 < (y219.length : Int) := (by have h_ : (t203 : Int) < ((t199.length : Int) : Int) := of_decide_eq_true (by first | (with_reducible assumption) | assumption); first | (have e_ := (Kd.S_reads' HO_14.out).1; omega) | simpa only [Ny212.out, Ny217.out, Ny219.out, List.length_set] using h_)
             have ql222 : ((t203 : Int) < ((t199.length : Int) : Int)) = True := eq_true (of_decide_eq_true (by first | (with_reducible assumption) | assumption))
             obtain ⟨ad222, A222_5, c222_5, e222, hx222_0, hx222_1, hx222_2, hx222_3, hx222_4, hx222_5, hl222_5, hi222_5⟩ := at_T61 (Kd.S_reads' HO_14.out).2.2 t203 p222 q222
             obtain rfl : (⟨go43, 0, none⟩ : Addr) = ad222 := (by injection e222)
             obtain ⟨ce222, hce222, hMe222, hcc222⟩ := Kd.S_get HO_14.out z61 t203 p222 (by first | exact q222 | exact of_decide_eq_true (by first | (with_reducible assumption) | assumption) | (have e_ := (Kd.S_reads' HO_14.out).1; omega))
             obtain ⟨ve222_5, rfl, ge222_5⟩ := k61_openM hMe222
             have hv222_5 := hcc222 5 _ rfl
             rw [add_field _ _ 5 (by omega)] at hv222_5
             replace hv222_5 := Option.some.inj (hv222_5.symm.trans hx222_5)
             rw [hv222_5] at ge222_5
             have HL222_5 := Aside0.mk (show Kd.R (Kd.int .i64) 3 _ _ _ _ ((rd_T61 y219 t203).f5) from ge222_5)
             clear hv222_5 ge222_5
             have HX222_5 := Aside0.mk hx222_5
             clear hcc222 hce222
             (first | simp only [add_plain] at hx222_0 | simp only [add_at] at hx222_0 | simp only [Addr.add, Nat.zero_add] at hx222_0 | skip)
             (first | simp only [add_plain] at hx222_1 | simp only [add_at] at hx222_1 | simp only [Addr.add, Nat.zero_add] at hx222_1 | skip)
             (first | simp only [add_plain] at hx222_2 | simp only [add_at] at hx222_2 | simp only [Addr.add, Nat.zero_add] at hx222_2 | skip)
             (first | simp only [add_plain] at hx222_3 | simp only [add_at] at hx222_3 | simp only [Addr.add, Nat.zero_add] at hx222_3 | skip)
             (first | simp only [add_plain] at hx222_4 | simp only [add_at] at hx222_4 | simp only [Addr.add, Nat.zero_add] at hx222_4 | skip)
             (first | simp only [add_plain] at hx222_5 | simp only [add_at] at hx222_5 | simp only [Addr.add, Nat.zero_add] at hx222_5 | skip)
             have HR222_5 := Aside0.mk hi222_5
             have HC222_5 := Aside0.mk hl222_5
             clear hi222_5 hl222_5
             replace p222 := eq_true p222
             replace q222 := eq_true q222
             have p59 : 0 ≤ (t203 : Int) := of_decide_eq_true (by first | (with_reducible assumption) | assumption)
             have q59 : (t203 : Int) < ((t199.length : Int) : Int) := of_decide_eq_true (by first | (with_reducible assumption) | assumption)
             obtain ⟨_, ce59, hcl59, hM59, hcc59, hfr59, _, _⟩ := Kd.S_elem HO_14.out z61 (t203 : Int) p59 q59
             obtain ⟨ve59_5, rfl, ge59_5⟩ := k61_openM hM59
             have hx59_0 : w54.cell? ⟨go43, (t203 : Int).toNat * 6, none⟩ = some (.int .i64 ((rd_T61 y219 t203).f0)) := hcc59 0 _ rfl
             have hx59_1 : w54.cell? ⟨go43, (t203 : Int).toNat * 6 + 1, none⟩ = some (.int .i64 ((rd_T61 y219 t203).f1)) := hcc59 1 _ rfl
             have hx59_2 : w54.cell? ⟨go43, (t203 : Int).toNat * 6 + 2, none⟩ = some (.int .i64 ((rd_T61 y219 t203).f2)) := hcc59 2 _ rfl
             have hx59_3 : w54.cell? ⟨go43, (t203 : Int).toNat * 6 + 3, none⟩ = some (.int .i64 ((rd_T61 y219 t203).f3)) := hcc59 3 _ rfl
             have hx59_4 : w54.cell? ⟨go43, (t203 : Int).toNat * 6 + 4, none⟩ = some (.int .i64 ((rd_T61 y219 t203).f4)) := hcc59 4 _ rfl
             have hx59_5 : w54.cell? ⟨go43, (t203 : Int).toNat * 6 + 5, none⟩ = some (ve59_5) := hcc59 5 _ rfl
             have hf59_0 : w54.frozen? ⟨go43, (t203 : Int).toNat * 6, none⟩ = false := hfr59 0
             have hf59_1 : w54.frozen? ⟨go43, (t203 : Int).toNat * 6 + 1, none⟩ = false := hfr59 1
             have hf59_2 : w54.frozen? ⟨go43, (t203 : Int).toNat * 6 + 2, none⟩ = false := hfr59 2
             have hf59_3 : w54.frozen? ⟨go43, (t203 : Int).toNat * 6 + 3, none⟩ = false := hfr59 3
             have hf59_4 : w54.frozen? ⟨go43, (t203 : Int).toNat * 6 + 4, none⟩ = false := hfr59 4
             have hf59_5 : w54.frozen? ⟨go43, (t203 : Int).toNat * 6 + 5, none⟩ = false := hfr59 5
             clear hcl59 hcc59 hfr59 hM59
             replace p59 := eq_true p59
             replace q59 := eq_true q59
             have HX60 := Aside0.mk (show Kd.S k61 61 w54 w.heap.size (fun k_ => ((fun _ => True)) k_ ∧ ¬ ((fun _ => False)) k_) (.slice (some ⟨go43, 0, none⟩) t199.length co42) y219 from (by (with_reducible repeat (first | apply Kd.S_alloc | apply Kd.S_drewN | apply Kd.S_drew)); exact Kd.S_mono HO_14.out (fun k_ hk => ⟨trivial, fun e_ => e_⟩)))
             obtain ⟨oki60, ce60, hcl60, hM60, hcc60, hfr60, hoki60, hH60⟩ := Kd.S_elem HX60.out z61 (t203 : Int) (of_decide_eq_true (by first | (with_reducible assumption) | assumption)) (by have h_ : (t203 : Int) < ((t199.length : Int) : Int) := of_decide_eq_true (by first | (with_reducible assumption) | assumption); first | exact h_ | (have e_ := (Kd.S_reads' HO_14.out).1; omega) | simpa using h_)
             obtain ⟨ve60_5, rfl, ge60_5⟩ := k61_openM hM60
             have HP60 := Kd.S_seg hH60 (of_decide_eq_true (by first | (with_reducible assumption) | assumption)) (by have h_ : (t203 : Int) < ((t199.length : Int) : Int) := of_decide_eq_true (by first | (with_reducible assumption) | assumption); first | exact h_ | (have e_ := (Kd.S_reads' HO_14.out).1; omega) | simpa using h_) (seg := [.int .i64 (wrap64 (((rd_T61 y219 t203).f2) + 1))]) (j := 2) (show 3 ≤ 6 from by decide) (x' := (⟨(rd_T61 y219 t203).f0, (rd_T61 y219 t203).f1, wrap64 (((rd_T61 y219 t203).f2) + 1), (rd_T61 y219 t203).f3, (rd_T61 y219 t203).f4, (rd_T61 y219 t203).f5⟩ : S61)) (k61_mkM _ _ _ (⟨(rd_T61 y219 t203).f0, (rd_T61 y219 t203).f1, wrap64 (((rd_T61 y219 t203).f2) + 1), (rd_T61 y219 t203).f3, (rd_T61 y219 t203).f4, (rd_T61 y219 t203).f5⟩ : S61) (Kd.R_mono ge60_5 (fun _ h_ => Or.inl h_))) (fun _ hk => hk) (fun k_ hk_ => hk_.elim)
             have hx60_2 := hcc60 2 _ rfl
             (try simp only [show (k61).sz = 6 from rfl, Nat.mul_one, Nat.add_zero] at hx60_2)
             have hf60_2 := hfr60 2
             (try simp only [show (k61).sz = 6 from rfl, Nat.mul_one, Nat.add_zero] at hf60_2)
             clear hcl60 hcc60 hfr60 hM60 hoki60 hH60
             go_wp2_with (first | ((with_reducible refine gate_store (t := 3) (p := 106) rfl ?_); refine store_event (t := 3) (p := 106) (v := ?vo_w61) (w1 := (w54.setCell ⟨go43, (t203 : Int).toNat * 6 + 2, none⟩ (.int .i64 (wrap64 (((rd_T61 y219 t203).f2) + 1))))) ?hg ?ho ?hn ?hr ?_; (case ho => rfl); (case hg => rfl); (case hn => rfl); (case hr => first | (go_simp; done) | (go_simp; rfl)); intro w61 hw; have hg : w54.grownBy w61 (some go43) := (by rw [hw]; exact HP60.2); have hp_ : Kd.S k61 61 w61 w.heap.size (fun _ => True) (.slice (some ⟨go43, 0, none⟩) t199.length co42) y223 := (by rw [hw, Ny223.out]; exact HP60.1); clear HP60; have n0_ := Aside0.mk (hp_); have n1_ := Aside0.mk (Kd.R_after (v := (.slice (some ⟨go43, 0, none⟩) t199.length co42)) (v1 := (.slice (some ⟨go43, 0, none⟩) t199.length co42)) (ok := (fun _ => True)) (by (with_reducible repeat (first | apply Kd.R_alloc | apply Kd.R_drewN | apply Kd.R_drew)); exact HL218_5.out) hg (.inl rfl)); have n2_ := Aside0.mk (Kd.R_after (v := (.slice (some ⟨go43, 0, none⟩) t199.length co42)) (v1 := (.slice (some ⟨go43, 0, none⟩) t199.length co42)) (ok := (fun _ => True)) (by (with_reducible repeat (first | apply Kd.R_alloc | apply Kd.R_drewN | apply Kd.R_drew)); exact HL222_5.out) hg (.inl rfl)); have n3_ := Aside0.mk ((by rw [hw]; exact below_set (HB.out) GB43.out : Below w.heap.size w w61)); clear HO_14; clear HL218_5; clear HL222_5; clear HB; have HO_14 := n0_; have HL218_5 := n1_; have HL222_5 := n2_; have HB := n3_; clear n0_ n1_ n2_ n3_; clear hg hw hp_))
             go_meet
             case rel => exact ⟨_, (y223), H', ⟨by have := HJ9.out; first | omega | exact Nat.le_refl _⟩, ⟨by (with_reducible repeat (first | apply Kd.S_alloc | apply Kd.S_drewN | apply Kd.S_drew)); exact HO_14.out⟩, ⟨by repeat (first | (with_reducible first | exact HB.out | apply below_alloc | apply pw_below_drewN | apply below_drew1) | exact HB.out)⟩⟩
           case rest =>
            clear HC41
            try clear c1
            try clear c2
            try clear p2
            try clear q2
            try clear hx2
            try clear c3
            try clear p3
            try clear q3
            try clear c4
            try clear p4
            try clear q4
            try clear hx4
            try clear c5
            try clear p5
            try clear q5
            try clear hx5
            try clear c6
            try clear p6
            try clear hx6
            try clear hf6
            try clear c7
            try clear c15
            try clear c16
            try clear c16b0
            try clear c18
            try clear c18b0
            try clear c20
            try clear c20b0
            try clear c20b1
            try clear p20
            try clear q20
            try clear hx20
            try clear c21
            try clear p21
            try clear q21
            try clear hx21
            try clear c22
            try clear p22
            try clear q22
            try clear hx22
            try clear c23
            try clear c25
            try clear c31
            try clear c32
            try clear c32b0
            try clear c33
            try clear c33b0
            try clear c34
            try clear p35
            try clear q35
            try clear c36
            try clear c36b0
            try clear c37
            try clear c37b0
            try clear c38
            try clear p39
            try clear q39
            try clear c40
            try clear p40
            try clear q40
            try clear hx40
            try clear hf40
            try clear c43
            try clear c45
            try clear hx45
            try clear hf45
            try clear c48
            try clear c50
            try clear hx50
            try clear hf50
            try clear c53
            try clear hx53
            try clear hf53
            try clear c55
            try clear c55b0
            try clear c55b1
            try clear c56
            try clear p56
            try clear q56
            try clear hx56
            try clear hf56
            try clear c57
            try clear hx57
            try clear hf57
            try clear c59
            try clear p59
            try clear q59
            try clear hx59
            try clear hf59
            try clear c60
            try clear hx60
            try clear hf60
            try clear hx208_0
            try clear hx208_1
            try clear hx208_2
            try clear hx208_3
            try clear hx208_4
            try clear hx208_5
            try clear hx213_0
            try clear hx213_1
            try clear hx213_2
            try clear hx213_3
            try clear hx213_4
            try clear hx213_5
            try clear hx218_0
            try clear hx218_1
            try clear hx218_2
            try clear hx218_3
            try clear hx218_4
            try clear hx218_5
            try clear hx220_0
            try clear hx220_1
            try clear hx220_2
            try clear hx220_3
            try clear hx220_4
            try clear hx220_5
            try clear hx222_0
            try clear hx222_1
            try clear hx222_2
            try clear hx222_3
            try clear hx222_4
            try clear hx222_5
            try clear hx40_0
            try clear hx40_1
            try clear hx40_2
            try clear hx40_3
            try clear hx40_4
            try clear hx40_5
            try clear hx45_0
            try clear hx50_0
            try clear hx53_4
            try clear hx56_0
            try clear hx56_1
            try clear hx56_2
            try clear hx56_3
            try clear hx56_4
            try clear hx56_5
            try clear hx57_2
            try clear hx59_0
            try clear hx59_1
            try clear hx59_2
            try clear hx59_3
            try clear hx59_4
            try clear hx59_5
            try clear hx60_2
            try clear p2
            try clear p208
            try clear p213
            try clear p218
            try clear p220
            try clear p222
            try clear p35
            try clear p39
            try clear p40
            try clear p56
            try clear p59
            try clear q208
            try clear q213
            try clear q218
            try clear q220
            try clear q222
            try clear q35
            try clear q39
            try clear q40
            try clear q56
            try clear q59
            obtain ⟨kq, x14_40, HA, HJ40, HO_14, HB⟩ := hcut
            have hl14_40 := (Kd.S_reads' HO_14.out).1
            rw [hl14_40] at HO_14
            (try simp only [hl14_40])
            cases kq with
            | zero => exact absurd HA.out (by simp [impl_AddResult.j1])
            | succ kj40 =>
             have H := HA.out
             clear HA
             simp only [impl_AddResult.j1] at H
             by_cases c62 : 0 ≤ t202
             ·
              rw [if_pos c62] at H
              have c62b0 : decide (0 ≤ t202) = true := decide_eq_true c62
              clear c62
              by_cases c63 : t202 < (x14_40.length : Int)
              ·
               rw [if_pos c63] at H
               have c63b0 : decide (t202 < (x14_40.length : Int)) = true := decide_eq_true c63
               clear c63
               obtain ⟨y225, hy225⟩ : ∃ y_ : List (S61), y_ = (x14_40.set (t202 : Int).toNat (⟨(rd_T61 x14_40 t202).f0, (rd_T61 x14_40 t202).f1, (rd_T61 x14_40 t202).f2, wrap64 (((rd_T61 x14_40 t202).f3) + a4), (rd_T61 x14_40 t202).f4, (rd_T61 x14_40 t202).f5⟩ : S61)) := ⟨_, rfl⟩
               replace H : (if 0 ≤ t203 then (if t203 < (x14_40.length : Int) then ((some (y225.set (t203 : Int).toNat (⟨(rd_T61 y225 t203).f0, (rd_T61 y225 t203).f1, (rd_T61 y225 t203).f2, wrap64 (((rd_T61 y225 t203).f3) + a5), (rd_T61 y225 t203).f4, (rd_T61 y225 t203).f5⟩ : S61) : List (S61))).bind fun y227 => ((impl_AreTeams.f kj40 y227).bind fun t228 => (if t228 = true then (some (y227, true)) else ((impl_cloneTeams.f kj40 l0).bind fun t229 => (some (t229, false)))))) else (none)) else (none)) = some (r1, r2) := by first | (rw [hy225]; with_reducible exact H) | (have H2_ := (Option.bind_some _ _).symm.trans H; rw [hy225]; with_reducible exact H2_) | (have H2_ := (Option.bind_some _ _).symm.trans H; with_reducible exact H2_) | with_reducible exact H | (rw [hy225]; exact H) | exact H
               have Ny225 := Aside0.mk hy225
               clear hy225
               by_cases c65 : 0 ≤ t203
               ·
                rw [if_pos c65] at H
                have c65b0 : decide (0 ≤ t203) = true := decide_eq_true c65
                clear c65
                by_cases c66 : t203 < (x14_40.length : Int)
                ·
                 rw [if_pos c66] at H
                 have c66b0 : decide (t203 < (x14_40.length : Int)) = true := decide_eq_true c66
                 clear c66
                 obtain ⟨y227, hy227⟩ : ∃ y_ : List (S61), y_ = (y225.set (t203 : Int).toNat (⟨(rd_T61 y225 t203).f0, (rd_T61 y225 t203).f1, (rd_T61 y225 t203).f2, wrap64 (((rd_T61 y225 t203).f3) + a5), (rd_T61 y225 t203).f4, (rd_T61 y225 t203).f5⟩ : S61)) := ⟨_, rfl⟩
                 replace H : ((impl_AreTeams.f kj40 y227).bind fun t228 => (if t228 = true then (some (y227, true)) else ((impl_cloneTeams.f kj40 l0).bind fun t229 => (some (t229, false))))) = some (r1, r2) := by first | (rw [hy227]; with_reducible exact H) | (have H2_ := (Option.bind_some _ _).symm.trans H; rw [hy227]; with_reducible exact H2_) | (have H2_ := (Option.bind_some _ _).symm.trans H; with_reducible exact H2_) | with_reducible exact H | (rw [hy227]; exact H) | exact H
                 have Ny227 := Aside0.mk hy227
                 clear hy227
                 replace H := Option.bind_eq_some_iff.mp H
                 obtain ⟨t228, A680, H⟩ := H
                 replace H : (if t228 = true then (some (y227, true)) else ((impl_cloneTeams.f kj40 l0).bind fun t229 => (some (t229, false)))) = some (r1, r2) := H
                 have A68 := Aside0.mk A680
                 clear A680
                 by_cases c69 : t228 = true
                 ·
                  subst c69
                  have H1 : (some (y227, true)) = some (r1, r2) := by rw [if_pos rfl] at H; exact H
                  clear H
                  have H := H1
                  clear H1
                  simp only [Option.some.injEq, Prod.mk.injEq] at H
                  obtain ⟨rfl, rfl⟩ := H
                  have p224 : 0 ≤ (t202 : Int) := of_decide_eq_true (by first | (with_reducible assumption) | assumption)
                  have q224 : t202 < (x14_40.length : Int) := of_decide_eq_true (by first | (with_reducible assumption) | assumption)
                  obtain ⟨ad224, A224_5, c224_5, e224, hx224_0, hx224_1, hx224_2, hx224_3, hx224_4, hx224_5, hl224_5, hi224_5⟩ := at_T61 (Kd.S_reads' HO_14.out).2.2 t202 p224 q224
                  obtain rfl : (⟨go43, 0, none⟩ : Addr) = ad224 := (by injection e224)
                  obtain ⟨ce224, hce224, hMe224, hcc224⟩ := Kd.S_get HO_14.out z61 t202 p224 (by first | exact q224 | exact of_decide_eq_true (by first | (with_reducible assumption) | assumption) | (have e_ := (Kd.S_reads' HO_14.out).1; omega))
                  obtain ⟨ve224_5, rfl, ge224_5⟩ := k61_openM hMe224
                  have hv224_5 := hcc224 5 _ rfl
                  rw [add_field _ _ 5 (by omega)] at hv224_5
                  replace hv224_5 := Option.some.inj (hv224_5.symm.trans hx224_5)
                  rw [hv224_5] at ge224_5
                  have HL224_5 := Aside0.mk (show Kd.R (Kd.int .i64) 3 _ _ _ _ ((rd_T61 x14_40 t202).f5) from ge224_5)
                  clear hv224_5 ge224_5
                  have HX224_5 := Aside0.mk hx224_5
                  clear hcc224 hce224
                  (first | simp only [add_plain] at hx224_0 | simp only [add_at] at hx224_0 | simp only [Addr.add, Nat.zero_add] at hx224_0 | skip)
                  (first | simp only [add_plain] at hx224_1 | simp only [add_at] at hx224_1 | simp only [Addr.add, Nat.zero_add] at hx224_1 | skip)
                  (first | simp only [add_plain] at hx224_2 | simp only [add_at] at hx224_2 | simp only [Addr.add, Nat.zero_add] at hx224_2 | skip)
                  (first | simp only [add_plain] at hx224_3 | simp only [add_at] at hx224_3 | simp only [Addr.add, Nat.zero_add] at hx224_3 | skip)
                  (first | simp only [add_plain] at hx224_4 | simp only [add_at] at hx224_4 | simp only [Addr.add, Nat.zero_add] at hx224_4 | skip)
                  (first | simp only [add_plain] at hx224_5 | simp only [add_at] at hx224_5 | simp only [Addr.add, Nat.zero_add] at hx224_5 | skip)
                  have HR224_5 := Aside0.mk hi224_5
                  have HC224_5 := Aside0.mk hl224_5
                  clear hi224_5 hl224_5
                  replace p224 := eq_true p224
                  replace q224 := eq_true q224
                  have p64 : 0 ≤ (t202 : Int) := of_decide_eq_true (by first | (with_reducible assumption) | assumption)
                  have q64 : (t202 : Int) < ((x14_40.length : Int) : Int) := of_decide_eq_true (by first | (with_reducible assumption) | assumption)
                  obtain ⟨_, ce64, hcl64, hM64, hcc64, hfr64, _, _⟩ := Kd.S_elem HO_14.out z61 (t202 : Int) p64 q64
                  obtain ⟨ve64_5, rfl, ge64_5⟩ := k61_openM hM64
                  have hx64_0 : wc.cell? ⟨go43, (t202 : Int).toNat * 6, none⟩ = some (.int .i64 ((rd_T61 x14_40 t202).f0)) := hcc64 0 _ rfl
                  have hx64_1 : wc.cell? ⟨go43, (t202 : Int).toNat * 6 + 1, none⟩ = some (.int .i64 ((rd_T61 x14_40 t202).f1)) := hcc64 1 _ rfl
                  have hx64_2 : wc.cell? ⟨go43, (t202 : Int).toNat * 6 + 2, none⟩ = some (.int .i64 ((rd_T61 x14_40 t202).f2)) := hcc64 2 _ rfl
                  have hx64_3 : wc.cell? ⟨go43, (t202 : Int).toNat * 6 + 3, none⟩ = some (.int .i64 ((rd_T61 x14_40 t202).f3)) := hcc64 3 _ rfl
                  have hx64_4 : wc.cell? ⟨go43, (t202 : Int).toNat * 6 + 4, none⟩ = some (.int .i64 ((rd_T61 x14_40 t202).f4)) := hcc64 4 _ rfl
                  have hx64_5 : wc.cell? ⟨go43, (t202 : Int).toNat * 6 + 5, none⟩ = some (ve64_5) := hcc64 5 _ rfl
                  have hf64_0 : wc.frozen? ⟨go43, (t202 : Int).toNat * 6, none⟩ = false := hfr64 0
                  have hf64_1 : wc.frozen? ⟨go43, (t202 : Int).toNat * 6 + 1, none⟩ = false := hfr64 1
                  have hf64_2 : wc.frozen? ⟨go43, (t202 : Int).toNat * 6 + 2, none⟩ = false := hfr64 2
                  have hf64_3 : wc.frozen? ⟨go43, (t202 : Int).toNat * 6 + 3, none⟩ = false := hfr64 3
                  have hf64_4 : wc.frozen? ⟨go43, (t202 : Int).toNat * 6 + 4, none⟩ = false := hfr64 4
                  have hf64_5 : wc.frozen? ⟨go43, (t202 : Int).toNat * 6 + 5, none⟩ = false := hfr64 5
                  clear hcl64 hcc64 hfr64 hM64
                  replace p64 := eq_true p64
                  replace q64 := eq_true q64
                  have HX70 := Aside0.mk (show Kd.S k61 61 wc w.heap.size (fun k_ => ((fun _ => True)) k_ ∧ ¬ ((fun _ => False)) k_) (.slice (some ⟨go43, 0, none⟩) x14_40.length co42) x14_40 from (by (with_reducible repeat (first | apply Kd.S_alloc | apply Kd.S_drewN | apply Kd.S_drew)); exact Kd.S_mono HO_14.out (fun k_ hk => ⟨trivial, fun e_ => e_⟩)))
                  obtain ⟨oki70, ce70, hcl70, hM70, hcc70, hfr70, hoki70, hH70⟩ := Kd.S_elem HX70.out z61 (t202 : Int) (of_decide_eq_true (by first | (with_reducible assumption) | assumption)) (by have h_ : (t202 : Int) < ((x14_40.length : Int) : Int) := of_decide_eq_true (by first | (with_reducible assumption) | assumption); first | exact h_ | (have e_ := (Kd.S_reads' HO_14.out).1; omega) | simpa using h_)
                  obtain ⟨ve70_5, rfl, ge70_5⟩ := k61_openM hM70
                  have HP70 := Kd.S_seg hH70 (of_decide_eq_true (by first | (with_reducible assumption) | assumption)) (by have h_ : (t202 : Int) < ((x14_40.length : Int) : Int) := of_decide_eq_true (by first | (with_reducible assumption) | assumption); first | exact h_ | (have e_ := (Kd.S_reads' HO_14.out).1; omega) | simpa using h_) (seg := [.int .i64 (wrap64 (((rd_T61 x14_40 t202).f3) + a4))]) (j := 3) (show 4 ≤ 6 from by decide) (x' := (⟨(rd_T61 x14_40 t202).f0, (rd_T61 x14_40 t202).f1, (rd_T61 x14_40 t202).f2, wrap64 (((rd_T61 x14_40 t202).f3) + a4), (rd_T61 x14_40 t202).f4, (rd_T61 x14_40 t202).f5⟩ : S61)) (k61_mkM _ _ _ (⟨(rd_T61 x14_40 t202).f0, (rd_T61 x14_40 t202).f1, (rd_T61 x14_40 t202).f2, wrap64 (((rd_T61 x14_40 t202).f3) + a4), (rd_T61 x14_40 t202).f4, (rd_T61 x14_40 t202).f5⟩ : S61) (Kd.R_mono ge70_5 (fun _ h_ => Or.inl h_))) (fun _ hk => hk) (fun k_ hk_ => hk_.elim)
                  have hx70_3 := hcc70 3 _ rfl
                  (try simp only [show (k61).sz = 6 from rfl, Nat.mul_one, Nat.add_zero] at hx70_3)
                  have hf70_3 := hfr70 3
                  (try simp only [show (k61).sz = 6 from rfl, Nat.mul_one, Nat.add_zero] at hf70_3)
                  clear hcl70 hcc70 hfr70 hM70 hoki70 hH70
                  go_wp2_with (first | ((with_reducible refine gate_store (t := 3) (p := 115) rfl ?_); refine store_event (t := 3) (p := 115) (v := ?vo_w71) (w1 := (wc.setCell ⟨go43, (t202 : Int).toNat * 6 + 3, none⟩ (.int .i64 (wrap64 (((rd_T61 x14_40 t202).f3) + a4))))) ?hg ?ho ?hn ?hr ?_; (case ho => rfl); (case hg => rfl); (case hn => rfl); (case hr => first | (go_simp; done) | (go_simp; rfl)); intro w71 hw; have hg : wc.grownBy w71 (some go43) := (by rw [hw]; exact HP70.2); have hp_ : Kd.S k61 61 w71 w.heap.size (fun _ => True) (.slice (some ⟨go43, 0, none⟩) x14_40.length co42) y225 := (by rw [hw, Ny225.out]; exact HP70.1); clear HP70; have n0_ := Aside0.mk (hp_); have n1_ := Aside0.mk (Kd.R_after (v := (.slice (some ⟨go43, 0, none⟩) x14_40.length co42)) (v1 := (.slice (some ⟨go43, 0, none⟩) x14_40.length co42)) (ok := (fun _ => True)) (by (with_reducible repeat (first | apply Kd.R_alloc | apply Kd.R_drewN | apply Kd.R_drew)); exact HL224_5.out) hg (.inl rfl)); have n2_ := Aside0.mk ((by rw [hw]; exact below_set (HB.out) GB43.out : Below w.heap.size w w71)); clear HO_14; clear HL224_5; clear HB; have HO_14 := n0_; have HL224_5 := n1_; have HB := n2_; clear n0_ n1_ n2_; clear hg hw hp_; have p226 : 0 ≤ (t203 : Int) := of_decide_eq_true (by first | (with_reducible assumption) | assumption); have q226 : t203 < (y225.length : Int) := (by have h_ : (t203 : Int) < ((x14_40.length : Int) : Int) := of_decide_eq_true (by first | (with_reducible assumption) | assumption); first | (have e_ := (Kd.S_reads' HO_14.out).1; omega) | simpa only [Ny225.out, List.length_set] using h_); have ql226 : ((t203 : Int) < ((x14_40.length : Int) : Int)) = True := eq_true (of_decide_eq_true (by first | (with_reducible assumption) | assumption)); obtain ⟨ad226, A226_5, c226_5, e226, hx226_0, hx226_1, hx226_2, hx226_3, hx226_4, hx226_5, hl226_5, hi226_5⟩ := at_T61 (Kd.S_reads' HO_14.out).2.2 t203 p226 q226; obtain rfl : (⟨go43, 0, none⟩ : Addr) = ad226 := (by injection e226); obtain ⟨ce226, hce226, hMe226, hcc226⟩ := Kd.S_get HO_14.out z61 t203 p226 (by first | exact q226 | exact of_decide_eq_true (by first | (with_reducible assumption) | assumption) | (have e_ := (Kd.S_reads' HO_14.out).1; omega)); obtain ⟨ve226_5, rfl, ge226_5⟩ := k61_openM hMe226; have hv226_5 := hcc226 5 _ rfl; rw [add_field _ _ 5 (by omega)] at hv226_5; replace hv226_5 := Option.some.inj (hv226_5.symm.trans hx226_5); rw [hv226_5] at ge226_5; have HL226_5 := Aside0.mk (show Kd.R (Kd.int .i64) 3 _ _ _ _ ((rd_T61 y225 t203).f5) from ge226_5); clear hv226_5 ge226_5; have HX226_5 := Aside0.mk hx226_5; clear hcc226 hce226; (first | simp only [add_plain] at hx226_0 | simp only [add_at] at hx226_0 | simp only [Addr.add, Nat.zero_add] at hx226_0 | skip); (first | simp only [add_plain] at hx226_1 | simp only [add_at] at hx226_1 | simp only [Addr.add, Nat.zero_add] at hx226_1 | skip); (first | simp only [add_plain] at hx226_2 | simp only [add_at] at hx226_2 | simp only [Addr.add, Nat.zero_add] at hx226_2 | skip); (first | simp only [add_plain] at hx226_3 | simp only [add_at] at hx226_3 | simp only [Addr.add, Nat.zero_add] at hx226_3 | skip); (first | simp only [add_plain] at hx226_4 | simp only [add_at] at hx226_4 | simp only [Addr.add, Nat.zero_add] at hx226_4 | skip); (first | simp only [add_plain] at hx226_5 | simp only [add_at] at hx226_5 | simp only [Addr.add, Nat.zero_add] at hx226_5 | skip); have HR226_5 := Aside0.mk hi226_5; have HC226_5 := Aside0.mk hl226_5; clear hi226_5 hl226_5; replace p226 := eq_true p226; replace q226 := eq_true q226; have p67 : 0 ≤ (t203 : Int) := of_decide_eq_true (by first | (with_reducible assumption) | assumption); have q67 : (t203 : Int) < ((x14_40.length : Int) : Int) := of_decide_eq_true (by first | (with_reducible assumption) | assumption); obtain ⟨_, ce67, hcl67, hM67, hcc67, hfr67, _, _⟩ := Kd.S_elem HO_14.out z61 (t203 : Int) p67 q67; obtain ⟨ve67_5, rfl, ge67_5⟩ := k61_openM hM67; have hx67_0 : w71.cell? ⟨go43, (t203 : Int).toNat * 6, none⟩ = some (.int .i64 ((rd_T61 y225 t203).f0)) := hcc67 0 _ rfl; have hx67_1 : w71.cell? ⟨go43, (t203 : Int).toNat * 6 + 1, none⟩ = some (.int .i64 ((rd_T61 y225 t203).f1)) := hcc67 1 _ rfl; have hx67_2 : w71.cell? ⟨go43, (t203 : Int).toNat * 6 + 2, none⟩ = some (.int .i64 ((rd_T61 y225 t203).f2)) := hcc67 2 _ rfl; have hx67_3 : w71.cell? ⟨go43, (t203 : Int).toNat * 6 + 3, none⟩ = some (.int .i64 ((rd_T61 y225 t203).f3)) := hcc67 3 _ rfl; have hx67_4 : w71.cell? ⟨go43, (t203 : Int).toNat * 6 + 4, none⟩ = some (.int .i64 ((rd_T61 y225 t203).f4)) := hcc67 4 _ rfl; have hx67_5 : w71.cell? ⟨go43, (t203 : Int).toNat * 6 + 5, none⟩ = some (ve67_5) := hcc67 5 _ rfl; have hf67_0 : w71.frozen? ⟨go43, (t203 : Int).toNat * 6, none⟩ = false := hfr67 0; have hf67_1 : w71.frozen? ⟨go43, (t203 : Int).toNat * 6 + 1, none⟩ = false := hfr67 1; have hf67_2 : w71.frozen? ⟨go43, (t203 : Int).toNat * 6 + 2, none⟩ = false := hfr67 2; have hf67_3 : w71.frozen? ⟨go43, (t203 : Int).toNat * 6 + 3, none⟩ = false := hfr67 3; have hf67_4 : w71.frozen? ⟨go43, (t203 : Int).toNat * 6 + 4, none⟩ = false := hfr67 4; have hf67_5 : w71.frozen? ⟨go43, (t203 : Int).toNat * 6 + 5, none⟩ = false := hfr67 5; clear hcl67 hcc67 hfr67 hM67; replace p67 := eq_true p67; replace q67 := eq_true q67; have HX72 := Aside0.mk (show Kd.S k61 61 w71 w.heap.size (fun k_ => ((fun _ => True)) k_ ∧ ¬ ((fun _ => False)) k_) (.slice (some ⟨go43, 0, none⟩) x14_40.length co42) y225 from (by (with_reducible repeat (first | apply Kd.S_alloc | apply Kd.S_drewN | apply Kd.S_drew)); exact Kd.S_mono HO_14.out (fun k_ hk => ⟨trivial, fun e_ => e_⟩))); obtain ⟨oki72, ce72, hcl72, hM72, hcc72, hfr72, hoki72, hH72⟩ := Kd.S_elem HX72.out z61 (t203 : Int) (of_decide_eq_true (by first | (with_reducible assumption) | assumption)) (by have h_ : (t203 : Int) < ((x14_40.length : Int) : Int) := of_decide_eq_true (by first | (with_reducible assumption) | assumption); first | exact h_ | (have e_ := (Kd.S_reads' HO_14.out).1; omega) | simpa using h_); obtain ⟨ve72_5, rfl, ge72_5⟩ := k61_openM hM72; have HP72 := Kd.S_seg hH72 (of_decide_eq_true (by first | (with_reducible assumption) | assumption)) (by have h_ : (t203 : Int) < ((x14_40.length : Int) : Int) := of_decide_eq_true (by first | (with_reducible assumption) | assumption); first | exact h_ | (have e_ := (Kd.S_reads' HO_14.out).1; omega) | simpa using h_) (seg := [.int .i64 (wrap64 (((rd_T61 y225 t203).f3) + a5))]) (j := 3) (show 4 ≤ 6 from by decide) (x' := (⟨(rd_T61 y225 t203).f0, (rd_T61 y225 t203).f1, (rd_T61 y225 t203).f2, wrap64 (((rd_T61 y225 t203).f3) + a5), (rd_T61 y225 t203).f4, (rd_T61 y225 t203).f5⟩ : S61)) (k61_mkM _ _ _ (⟨(rd_T61 y225 t203).f0, (rd_T61 y225 t203).f1, (rd_T61 y225 t203).f2, wrap64 (((rd_T61 y225 t203).f3) + a5), (rd_T61 y225 t203).f4, (rd_T61 y225 t203).f5⟩ : S61) (Kd.R_mono ge72_5 (fun _ h_ => Or.inl h_))) (fun _ hk => hk) (fun k_ hk_ => hk_.elim); have hx72_3 := hcc72 3 _ rfl; (try simp only [show (k61).sz = 6 from rfl, Nat.mul_one, Nat.add_zero] at hx72_3); have hf72_3 := hfr72 3; (try simp only [show (k61).sz = 6 from rfl, Nat.mul_one, Nat.add_zero] at hf72_3); clear hcl72 hcc72 hfr72 hM72 hoki72 hH72) | ((with_reducible refine gate_store (t := 3) (p := 124) rfl ?_); refine store_event (t := 3) (p := 124) (v := ?vo_w73) (w1 := (w71.setCell ⟨go43, (t203 : Int).toNat * 6 + 3, none⟩ (.int .i64 (wrap64 (((rd_T61 y225 t203).f3) + a5))))) ?hg ?ho ?hn ?hr ?_; (case ho => rfl); (case hg => rfl); (case hn => rfl); (case hr => first | (go_simp; done) | (go_simp; rfl)); intro w73 hw; have hg : w71.grownBy w73 (some go43) := (by rw [hw]; exact HP72.2); have hp_ : Kd.S k61 61 w73 w.heap.size (fun _ => True) (.slice (some ⟨go43, 0, none⟩) x14_40.length co42) y227 := (by rw [hw, Ny227.out]; exact HP72.1); clear HP72; have n0_ := Aside0.mk (hp_); have n1_ := Aside0.mk (Kd.R_after (v := (.slice (some ⟨go43, 0, none⟩) x14_40.length co42)) (v1 := (.slice (some ⟨go43, 0, none⟩) x14_40.length co42)) (ok := (fun _ => True)) (by (with_reducible repeat (first | apply Kd.R_alloc | apply Kd.R_drewN | apply Kd.R_drew)); exact HL224_5.out) hg (.inl rfl)); have n2_ := Aside0.mk (Kd.R_after (v := (.slice (some ⟨go43, 0, none⟩) x14_40.length co42)) (v1 := (.slice (some ⟨go43, 0, none⟩) x14_40.length co42)) (ok := (fun _ => True)) (by (with_reducible repeat (first | apply Kd.R_alloc | apply Kd.R_drewN | apply Kd.R_drew)); exact HL226_5.out) hg (.inl rfl)); have n3_ := Aside0.mk ((by rw [hw]; exact below_set (HB.out) GB43.out : Below w.heap.size w w73)); clear HO_14; clear HL224_5; clear HL226_5; clear HB; have HO_14 := n0_; have HL224_5 := n1_; have HL226_5 := n2_; have HB := n3_; clear n0_ n1_ n2_ n3_; clear hg hw hp_) | ((with_reducible refine gate_callee (f := 21) rfl ?_); refine goesL_ (some 126) rfl rfl Try.func21 (by kernel_rfl) rfl #[.slice (some ⟨go43, 0, none⟩) y227.length co42] rfl (by (try simp only [List.map_toArray, List.map_cons, List.map_nil]); first | done | (rw [show y227.length = x14_40.length from (Kd.S_reads' HO_14.out).1.symm] <;> rfl) | rfl | (simp only [List.length_drop, List.length_take]; rfl)) ?_; (with_reducible refine (impl_AreTeams.calls kj40 _ _ y227 true _ ?side1 ?side2 A68.out).mono ?_); (case side1 => repeat (first | exact (Kd.S_reads' HO_14.out).2.2 | (with_reducible refine Kd.C_alloc ?_ _) | (with_reducible refine Kd.C_drewN ?_ _) | (with_reducible refine Kd.C_drew ?_))); (case side2 => rw [show y227.length = x14_40.length from (Kd.S_reads' HO_14.out).1.symm]; exact (Kd.S_reads' HO_14.out).2.1); rintro e w74 ⟨rfl, hb⟩; refine ⟨_, rfl, ?_⟩; have n0_ := Aside0.mk (Kd.S_below (by (with_reducible repeat (first | apply Kd.S_alloc | apply Kd.S_drewN | apply Kd.S_drew)); exact HO_14.out) hb); have n1_ := Aside0.mk (Kd.R_below (by (with_reducible repeat (first | apply Kd.R_alloc | apply Kd.R_drewN | apply Kd.R_drew)); exact HL224_5.out) hb); have n2_ := Aside0.mk (Kd.R_below (by (with_reducible repeat (first | apply Kd.R_alloc | apply Kd.R_drewN | apply Kd.R_drew)); exact HL226_5.out) hb); have n3_ := Aside0.mk (below_step (by repeat (first | (with_reducible first | exact HB.out | apply below_alloc | apply pw_below_drewN | apply below_drew1) | exact HB.out)) hb); clear HO_14; clear HL224_5; clear HL226_5; clear HB; have HO_14 := n0_; have HL224_5 := n1_; have HL226_5 := n2_; have HB := n3_; clear n0_ n1_ n2_ n3_; (try clear hb); (try clear hb2); (try clear hk); (try clear hi)))
                  go_ret2
                  exact ⟨_, by first | rfl | (simp [errW_none, errW_some] <;> rfl) | (simp [*, errW_none, errW_some] <;> rfl), by (with_reducible repeat (first | apply Kd.S_alloc | apply Kd.S_drewN | apply Kd.S_drew)); exact HO_14.out, by repeat (first | (with_reducible first | exact HB.out | apply below_alloc | apply pw_below_drewN | apply below_drew1) | exact HB.out)⟩
                 ·
                  replace c69 := Bool.eq_false_iff.mpr c69
                  subst c69
                  have H1 : ((impl_cloneTeams.f kj40 l0).bind fun t229 => (some (t229, false))) = some (r1, r2) := by rw [if_neg (show ¬ (false = true) by decide)] at H; exact H
                  clear H
                  have H := H1
                  clear H1
                  replace H := Option.bind_eq_some_iff.mp H
                  obtain ⟨t229, A750, H⟩ := H
                  replace H : (some (t229, false)) = some (r1, r2) := H
                  have A75 := Aside0.mk A750
                  clear A750
                  simp only [Option.some.injEq, Prod.mk.injEq] at H
                  obtain ⟨rfl, rfl⟩ := H
                  have p224 : 0 ≤ (t202 : Int) := of_decide_eq_true (by first | (with_reducible assumption) | assumption)
                  have q224 : t202 < (x14_40.length : Int) := of_decide_eq_true (by first | (with_reducible assumption) | assumption)
                  obtain ⟨ad224, A224_5, c224_5, e224, hx224_0, hx224_1, hx224_2, hx224_3, hx224_4, hx224_5, hl224_5, hi224_5⟩ := at_T61 (Kd.S_reads' HO_14.out).2.2 t202 p224 q224
                  obtain rfl : (⟨go43, 0, none⟩ : Addr) = ad224 := (by injection e224)
                  obtain ⟨ce224, hce224, hMe224, hcc224⟩ := Kd.S_get HO_14.out z61 t202 p224 (by first | exact q224 | exact of_decide_eq_true (by first | (with_reducible assumption) | assumption) | (have e_ := (Kd.S_reads' HO_14.out).1; omega))
                  obtain ⟨ve224_5, rfl, ge224_5⟩ := k61_openM hMe224
                  have hv224_5 := hcc224 5 _ rfl
                  rw [add_field _ _ 5 (by omega)] at hv224_5
                  replace hv224_5 := Option.some.inj (hv224_5.symm.trans hx224_5)
                  rw [hv224_5] at ge224_5
                  have HL224_5 := Aside0.mk (show Kd.R (Kd.int .i64) 3 _ _ _ _ ((rd_T61 x14_40 t202).f5) from ge224_5)
                  clear hv224_5 ge224_5
                  have HX224_5 := Aside0.mk hx224_5
                  clear hcc224 hce224
                  (first | simp only [add_plain] at hx224_0 | simp only [add_at] at hx224_0 | simp only [Addr.add, Nat.zero_add] at hx224_0 | skip)
                  (first | simp only [add_plain] at hx224_1 | simp only [add_at] at hx224_1 | simp only [Addr.add, Nat.zero_add] at hx224_1 | skip)
                  (first | simp only [add_plain] at hx224_2 | simp only [add_at] at hx224_2 | simp only [Addr.add, Nat.zero_add] at hx224_2 | skip)
                  (first | simp only [add_plain] at hx224_3 | simp only [add_at] at hx224_3 | simp only [Addr.add, Nat.zero_add] at hx224_3 | skip)
                  (first | simp only [add_plain] at hx224_4 | simp only [add_at] at hx224_4 | simp only [Addr.add, Nat.zero_add] at hx224_4 | skip)
                  (first | simp only [add_plain] at hx224_5 | simp only [add_at] at hx224_5 | simp only [Addr.add, Nat.zero_add] at hx224_5 | skip)
                  have HR224_5 := Aside0.mk hi224_5
                  have HC224_5 := Aside0.mk hl224_5
                  clear hi224_5 hl224_5
                  replace p224 := eq_true p224
                  replace q224 := eq_true q224
                  have p64 : 0 ≤ (t202 : Int) := of_decide_eq_true (by first | (with_reducible assumption) | assumption)
                  have q64 : (t202 : Int) < ((x14_40.length : Int) : Int) := of_decide_eq_true (by first | (with_reducible assumption) | assumption)
                  obtain ⟨_, ce64, hcl64, hM64, hcc64, hfr64, _, _⟩ := Kd.S_elem HO_14.out z61 (t202 : Int) p64 q64
                  obtain ⟨ve64_5, rfl, ge64_5⟩ := k61_openM hM64
                  have hx64_0 : wc.cell? ⟨go43, (t202 : Int).toNat * 6, none⟩ = some (.int .i64 ((rd_T61 x14_40 t202).f0)) := hcc64 0 _ rfl
                  have hx64_1 : wc.cell? ⟨go43, (t202 : Int).toNat * 6 + 1, none⟩ = some (.int .i64 ((rd_T61 x14_40 t202).f1)) := hcc64 1 _ rfl
                  have hx64_2 : wc.cell? ⟨go43, (t202 : Int).toNat * 6 + 2, none⟩ = some (.int .i64 ((rd_T61 x14_40 t202).f2)) := hcc64 2 _ rfl
                  have hx64_3 : wc.cell? ⟨go43, (t202 : Int).toNat * 6 + 3, none⟩ = some (.int .i64 ((rd_T61 x14_40 t202).f3)) := hcc64 3 _ rfl
                  have hx64_4 : wc.cell? ⟨go43, (t202 : Int).toNat * 6 + 4, none⟩ = some (.int .i64 ((rd_T61 x14_40 t202).f4)) := hcc64 4 _ rfl
                  have hx64_5 : wc.cell? ⟨go43, (t202 : Int).toNat * 6 + 5, none⟩ = some (ve64_5) := hcc64 5 _ rfl
                  have hf64_0 : wc.frozen? ⟨go43, (t202 : Int).toNat * 6, none⟩ = false := hfr64 0
                  have hf64_1 : wc.frozen? ⟨go43, (t202 : Int).toNat * 6 + 1, none⟩ = false := hfr64 1
                  have hf64_2 : wc.frozen? ⟨go43, (t202 : Int).toNat * 6 + 2, none⟩ = false := hfr64 2
                  have hf64_3 : wc.frozen? ⟨go43, (t202 : Int).toNat * 6 + 3, none⟩ = false := hfr64 3
                  have hf64_4 : wc.frozen? ⟨go43, (t202 : Int).toNat * 6 + 4, none⟩ = false := hfr64 4
                  have hf64_5 : wc.frozen? ⟨go43, (t202 : Int).toNat * 6 + 5, none⟩ = false := hfr64 5
                  clear hcl64 hcc64 hfr64 hM64
                  replace p64 := eq_true p64
                  replace q64 := eq_true q64
                  have HX76 := Aside0.mk (show Kd.S k61 61 wc w.heap.size (fun k_ => ((fun _ => True)) k_ ∧ ¬ ((fun _ => False)) k_) (.slice (some ⟨go43, 0, none⟩) x14_40.length co42) x14_40 from (by (with_reducible repeat (first | apply Kd.S_alloc | apply Kd.S_drewN | apply Kd.S_drew)); exact Kd.S_mono HO_14.out (fun k_ hk => ⟨trivial, fun e_ => e_⟩)))
                  obtain ⟨oki76, ce76, hcl76, hM76, hcc76, hfr76, hoki76, hH76⟩ := Kd.S_elem HX76.out z61 (t202 : Int) (of_decide_eq_true (by first | (with_reducible assumption) | assumption)) (by have h_ : (t202 : Int) < ((x14_40.length : Int) : Int) := of_decide_eq_true (by first | (with_reducible assumption) | assumption); first | exact h_ | (have e_ := (Kd.S_reads' HO_14.out).1; omega) | simpa using h_)
                  obtain ⟨ve76_5, rfl, ge76_5⟩ := k61_openM hM76
                  have HP76 := Kd.S_seg hH76 (of_decide_eq_true (by first | (with_reducible assumption) | assumption)) (by have h_ : (t202 : Int) < ((x14_40.length : Int) : Int) := of_decide_eq_true (by first | (with_reducible assumption) | assumption); first | exact h_ | (have e_ := (Kd.S_reads' HO_14.out).1; omega) | simpa using h_) (seg := [.int .i64 (wrap64 (((rd_T61 x14_40 t202).f3) + a4))]) (j := 3) (show 4 ≤ 6 from by decide) (x' := (⟨(rd_T61 x14_40 t202).f0, (rd_T61 x14_40 t202).f1, (rd_T61 x14_40 t202).f2, wrap64 (((rd_T61 x14_40 t202).f3) + a4), (rd_T61 x14_40 t202).f4, (rd_T61 x14_40 t202).f5⟩ : S61)) (k61_mkM _ _ _ (⟨(rd_T61 x14_40 t202).f0, (rd_T61 x14_40 t202).f1, (rd_T61 x14_40 t202).f2, wrap64 (((rd_T61 x14_40 t202).f3) + a4), (rd_T61 x14_40 t202).f4, (rd_T61 x14_40 t202).f5⟩ : S61) (Kd.R_mono ge76_5 (fun _ h_ => Or.inl h_))) (fun _ hk => hk) (fun k_ hk_ => hk_.elim)
                  have hx76_3 := hcc76 3 _ rfl
                  (try simp only [show (k61).sz = 6 from rfl, Nat.mul_one, Nat.add_zero] at hx76_3)
                  have hf76_3 := hfr76 3
                  (try simp only [show (k61).sz = 6 from rfl, Nat.mul_one, Nat.add_zero] at hf76_3)
                  clear hcl76 hcc76 hfr76 hM76 hoki76 hH76
                  go_wp2_with (first | ((with_reducible refine gate_store (t := 3) (p := 115) rfl ?_); refine store_event (t := 3) (p := 115) (v := ?vo_w77) (w1 := (wc.setCell ⟨go43, (t202 : Int).toNat * 6 + 3, none⟩ (.int .i64 (wrap64 (((rd_T61 x14_40 t202).f3) + a4))))) ?hg ?ho ?hn ?hr ?_; (case ho => rfl); (case hg => rfl); (case hn => rfl); (case hr => first | (go_simp; done) | (go_simp; rfl)); intro w77 hw; have hg : wc.grownBy w77 (some go43) := (by rw [hw]; exact HP76.2); have hp_ : Kd.S k61 61 w77 w.heap.size (fun _ => True) (.slice (some ⟨go43, 0, none⟩) x14_40.length co42) y225 := (by rw [hw, Ny225.out]; exact HP76.1); clear HP76; have n0_ := Aside0.mk (hp_); have n1_ := Aside0.mk (Kd.R_after (v := (.slice (some ⟨go43, 0, none⟩) x14_40.length co42)) (v1 := (.slice (some ⟨go43, 0, none⟩) x14_40.length co42)) (ok := (fun _ => True)) (by (with_reducible repeat (first | apply Kd.R_alloc | apply Kd.R_drewN | apply Kd.R_drew)); exact HL224_5.out) hg (.inl rfl)); have n2_ := Aside0.mk ((by rw [hw]; exact below_set (HB.out) GB43.out : Below w.heap.size w w77)); clear HO_14; clear HL224_5; clear HB; have HO_14 := n0_; have HL224_5 := n1_; have HB := n2_; clear n0_ n1_ n2_; clear hg hw hp_; have p226 : 0 ≤ (t203 : Int) := of_decide_eq_true (by first | (with_reducible assumption) | assumption); have q226 : t203 < (y225.length : Int) := (by have h_ : (t203 : Int) < ((x14_40.length : Int) : Int) := of_decide_eq_true (by first | (with_reducible assumption) | assumption); first | (have e_ := (Kd.S_reads' HO_14.out).1; omega) | simpa only [Ny225.out, List.length_set] using h_); have ql226 : ((t203 : Int) < ((x14_40.length : Int) : Int)) = True := eq_true (of_decide_eq_true (by first | (with_reducible assumption) | assumption)); obtain ⟨ad226, A226_5, c226_5, e226, hx226_0, hx226_1, hx226_2, hx226_3, hx226_4, hx226_5, hl226_5, hi226_5⟩ := at_T61 (Kd.S_reads' HO_14.out).2.2 t203 p226 q226; obtain rfl : (⟨go43, 0, none⟩ : Addr) = ad226 := (by injection e226); obtain ⟨ce226, hce226, hMe226, hcc226⟩ := Kd.S_get HO_14.out z61 t203 p226 (by first | exact q226 | exact of_decide_eq_true (by first | (with_reducible assumption) | assumption) | (have e_ := (Kd.S_reads' HO_14.out).1; omega)); obtain ⟨ve226_5, rfl, ge226_5⟩ := k61_openM hMe226; have hv226_5 := hcc226 5 _ rfl; rw [add_field _ _ 5 (by omega)] at hv226_5; replace hv226_5 := Option.some.inj (hv226_5.symm.trans hx226_5); rw [hv226_5] at ge226_5; have HL226_5 := Aside0.mk (show Kd.R (Kd.int .i64) 3 _ _ _ _ ((rd_T61 y225 t203).f5) from ge226_5); clear hv226_5 ge226_5; have HX226_5 := Aside0.mk hx226_5; clear hcc226 hce226; (first | simp only [add_plain] at hx226_0 | simp only [add_at] at hx226_0 | simp only [Addr.add, Nat.zero_add] at hx226_0 | skip); (first | simp only [add_plain] at hx226_1 | simp only [add_at] at hx226_1 | simp only [Addr.add, Nat.zero_add] at hx226_1 | skip); (first | simp only [add_plain] at hx226_2 | simp only [add_at] at hx226_2 | simp only [Addr.add, Nat.zero_add] at hx226_2 | skip); (first | simp only [add_plain] at hx226_3 | simp only [add_at] at hx226_3 | simp only [Addr.add, Nat.zero_add] at hx226_3 | skip); (first | simp only [add_plain] at hx226_4 | simp only [add_at] at hx226_4 | simp only [Addr.add, Nat.zero_add] at hx226_4 | skip); (first | simp only [add_plain] at hx226_5 | simp only [add_at] at hx226_5 | simp only [Addr.add, Nat.zero_add] at hx226_5 | skip); have HR226_5 := Aside0.mk hi226_5; have HC226_5 := Aside0.mk hl226_5; clear hi226_5 hl226_5; replace p226 := eq_true p226; replace q226 := eq_true q226; have p67 : 0 ≤ (t203 : Int) := of_decide_eq_true (by first | (with_reducible assumption) | assumption); have q67 : (t203 : Int) < ((x14_40.length : Int) : Int) := of_decide_eq_true (by first | (with_reducible assumption) | assumption); obtain ⟨_, ce67, hcl67, hM67, hcc67, hfr67, _, _⟩ := Kd.S_elem HO_14.out z61 (t203 : Int) p67 q67; obtain ⟨ve67_5, rfl, ge67_5⟩ := k61_openM hM67; have hx67_0 : w77.cell? ⟨go43, (t203 : Int).toNat * 6, none⟩ = some (.int .i64 ((rd_T61 y225 t203).f0)) := hcc67 0 _ rfl; have hx67_1 : w77.cell? ⟨go43, (t203 : Int).toNat * 6 + 1, none⟩ = some (.int .i64 ((rd_T61 y225 t203).f1)) := hcc67 1 _ rfl; have hx67_2 : w77.cell? ⟨go43, (t203 : Int).toNat * 6 + 2, none⟩ = some (.int .i64 ((rd_T61 y225 t203).f2)) := hcc67 2 _ rfl; have hx67_3 : w77.cell? ⟨go43, (t203 : Int).toNat * 6 + 3, none⟩ = some (.int .i64 ((rd_T61 y225 t203).f3)) := hcc67 3 _ rfl; have hx67_4 : w77.cell? ⟨go43, (t203 : Int).toNat * 6 + 4, none⟩ = some (.int .i64 ((rd_T61 y225 t203).f4)) := hcc67 4 _ rfl; have hx67_5 : w77.cell? ⟨go43, (t203 : Int).toNat * 6 + 5, none⟩ = some (ve67_5) := hcc67 5 _ rfl; have hf67_0 : w77.frozen? ⟨go43, (t203 : Int).toNat * 6, none⟩ = false := hfr67 0; have hf67_1 : w77.frozen? ⟨go43, (t203 : Int).toNat * 6 + 1, none⟩ = false := hfr67 1; have hf67_2 : w77.frozen? ⟨go43, (t203 : Int).toNat * 6 + 2, none⟩ = false := hfr67 2; have hf67_3 : w77.frozen? ⟨go43, (t203 : Int).toNat * 6 + 3, none⟩ = false := hfr67 3; have hf67_4 : w77.frozen? ⟨go43, (t203 : Int).toNat * 6 + 4, none⟩ = false := hfr67 4; have hf67_5 : w77.frozen? ⟨go43, (t203 : Int).toNat * 6 + 5, none⟩ = false := hfr67 5; clear hcl67 hcc67 hfr67 hM67; replace p67 := eq_true p67; replace q67 := eq_true q67; have HX78 := Aside0.mk (show Kd.S k61 61 w77 w.heap.size (fun k_ => ((fun _ => True)) k_ ∧ ¬ ((fun _ => False)) k_) (.slice (some ⟨go43, 0, none⟩) x14_40.length co42) y225 from (by (with_reducible repeat (first | apply Kd.S_alloc | apply Kd.S_drewN | apply Kd.S_drew)); exact Kd.S_mono HO_14.out (fun k_ hk => ⟨trivial, fun e_ => e_⟩))); obtain ⟨oki78, ce78, hcl78, hM78, hcc78, hfr78, hoki78, hH78⟩ := Kd.S_elem HX78.out z61 (t203 : Int) (of_decide_eq_true (by first | (with_reducible assumption) | assumption)) (by have h_ : (t203 : Int) < ((x14_40.length : Int) : Int) := of_decide_eq_true (by first | (with_reducible assumption) | assumption); first | exact h_ | (have e_ := (Kd.S_reads' HO_14.out).1; omega) | simpa using h_); obtain ⟨ve78_5, rfl, ge78_5⟩ := k61_openM hM78; have HP78 := Kd.S_seg hH78 (of_decide_eq_true (by first | (with_reducible assumption) | assumption)) (by have h_ : (t203 : Int) < ((x14_40.length : Int) : Int) := of_decide_eq_true (by first | (with_reducible assumption) | assumption); first | exact h_ | (have e_ := (Kd.S_reads' HO_14.out).1; omega) | simpa using h_) (seg := [.int .i64 (wrap64 (((rd_T61 y225 t203).f3) + a5))]) (j := 3) (show 4 ≤ 6 from by decide) (x' := (⟨(rd_T61 y225 t203).f0, (rd_T61 y225 t203).f1, (rd_T61 y225 t203).f2, wrap64 (((rd_T61 y225 t203).f3) + a5), (rd_T61 y225 t203).f4, (rd_T61 y225 t203).f5⟩ : S61)) (k61_mkM _ _ _ (⟨(rd_T61 y225 t203).f0, (rd_T61 y225 t203).f1, (rd_T61 y225 t203).f2, wrap64 (((rd_T61 y225 t203).f3) + a5), (rd_T61 y225 t203).f4, (rd_T61 y225 t203).f5⟩ : S61) (Kd.R_mono ge78_5 (fun _ h_ => Or.inl h_))) (fun _ hk => hk) (fun k_ hk_ => hk_.elim); have hx78_3 := hcc78 3 _ rfl; (try simp only [show (k61).sz = 6 from rfl, Nat.mul_one, Nat.add_zero] at hx78_3); have hf78_3 := hfr78 3; (try simp only [show (k61).sz = 6 from rfl, Nat.mul_one, Nat.add_zero] at hf78_3); clear hcl78 hcc78 hfr78 hM78 hoki78 hH78) | ((with_reducible refine gate_store (t := 3) (p := 124) rfl ?_); refine store_event (t := 3) (p := 124) (v := ?vo_w79) (w1 := (w77.setCell ⟨go43, (t203 : Int).toNat * 6 + 3, none⟩ (.int .i64 (wrap64 (((rd_T61 y225 t203).f3) + a5))))) ?hg ?ho ?hn ?hr ?_; (case ho => rfl); (case hg => rfl); (case hn => rfl); (case hr => first | (go_simp; done) | (go_simp; rfl)); intro w79 hw; have hg : w77.grownBy w79 (some go43) := (by rw [hw]; exact HP78.2); have hp_ : Kd.S k61 61 w79 w.heap.size (fun _ => True) (.slice (some ⟨go43, 0, none⟩) x14_40.length co42) y227 := (by rw [hw, Ny227.out]; exact HP78.1); clear HP78; have n0_ := Aside0.mk (hp_); have n1_ := Aside0.mk (Kd.R_after (v := (.slice (some ⟨go43, 0, none⟩) x14_40.length co42)) (v1 := (.slice (some ⟨go43, 0, none⟩) x14_40.length co42)) (ok := (fun _ => True)) (by (with_reducible repeat (first | apply Kd.R_alloc | apply Kd.R_drewN | apply Kd.R_drew)); exact HL224_5.out) hg (.inl rfl)); have n2_ := Aside0.mk (Kd.R_after (v := (.slice (some ⟨go43, 0, none⟩) x14_40.length co42)) (v1 := (.slice (some ⟨go43, 0, none⟩) x14_40.length co42)) (ok := (fun _ => True)) (by (with_reducible repeat (first | apply Kd.R_alloc | apply Kd.R_drewN | apply Kd.R_drew)); exact HL226_5.out) hg (.inl rfl)); have n3_ := Aside0.mk ((by rw [hw]; exact below_set (HB.out) GB43.out : Below w.heap.size w w79)); clear HO_14; clear HL224_5; clear HL226_5; clear HB; have HO_14 := n0_; have HL224_5 := n1_; have HL226_5 := n2_; have HB := n3_; clear n0_ n1_ n2_ n3_; clear hg hw hp_) | ((with_reducible refine gate_callee (f := 21) rfl ?_); refine goesL_ (some 126) rfl rfl Try.func21 (by kernel_rfl) rfl #[.slice (some ⟨go43, 0, none⟩) y227.length co42] rfl (by (try simp only [List.map_toArray, List.map_cons, List.map_nil]); first | done | (rw [show y227.length = x14_40.length from (Kd.S_reads' HO_14.out).1.symm] <;> rfl) | rfl | (simp only [List.length_drop, List.length_take]; rfl)) ?_; (with_reducible refine (impl_AreTeams.calls kj40 _ _ y227 false _ ?side1 ?side2 A68.out).mono ?_); (case side1 => repeat (first | exact (Kd.S_reads' HO_14.out).2.2 | (with_reducible refine Kd.C_alloc ?_ _) | (with_reducible refine Kd.C_drewN ?_ _) | (with_reducible refine Kd.C_drew ?_))); (case side2 => rw [show y227.length = x14_40.length from (Kd.S_reads' HO_14.out).1.symm]; exact (Kd.S_reads' HO_14.out).2.1); rintro e w80 ⟨rfl, hb⟩; refine ⟨_, rfl, ?_⟩; have n0_ := Aside0.mk (Kd.S_below (by (with_reducible repeat (first | apply Kd.S_alloc | apply Kd.S_drewN | apply Kd.S_drew)); exact HO_14.out) hb); have n1_ := Aside0.mk (Kd.R_below (by (with_reducible repeat (first | apply Kd.R_alloc | apply Kd.R_drewN | apply Kd.R_drew)); exact HL224_5.out) hb); have n2_ := Aside0.mk (Kd.R_below (by (with_reducible repeat (first | apply Kd.R_alloc | apply Kd.R_drewN | apply Kd.R_drew)); exact HL226_5.out) hb); have n3_ := Aside0.mk (below_step (by repeat (first | (with_reducible first | exact HB.out | apply below_alloc | apply pw_below_drewN | apply below_drew1) | exact HB.out)) hb); clear HO_14; clear HL224_5; clear HL226_5; clear HB; have HO_14 := n0_; have HL224_5 := n1_; have HL226_5 := n2_; have HB := n3_; clear n0_ n1_ n2_ n3_; (try clear hb); (try clear hb2); (try clear hk); (try clear hi)) | ((with_reducible refine gate_callee (f := 75) rfl ?_); refine goesL_ (some 129) rfl rfl Try.func75 (by kernel_rfl) rfl #[.slice A0 l0.length c0] rfl (by (try simp only [List.map_toArray, List.map_cons, List.map_nil]); first | done | rfl | (simp only [List.length_drop, List.length_take]; rfl)) ?_; (with_reducible refine (impl_cloneTeams.calls kj40 _ _ l0 t229 _ ?side1 ?side2 A75.out).mono ?_); (case side1 => repeat (first | exact (Kd.C_below HR0.out HB.out) | (with_reducible refine Kd.C_alloc ?_ _) | (with_reducible refine Kd.C_drewN ?_ _) | (with_reducible refine Kd.C_drew ?_))); (case side2 => exact HC0.out); rintro e w81 ⟨v230, rfl, ho0, hb⟩; refine ⟨_, rfl, ?_⟩; have n0_ := Aside0.mk (Kd.S_elder' (by (with_reducible repeat (first | apply Kd.S_alloc | apply Kd.S_drewN | apply Kd.S_drew)); exact HO_14.out) (Kd.S_base ho0) hb); have n1_ := Aside0.mk (Kd.R_below (by (with_reducible repeat (first | apply Kd.R_alloc | apply Kd.R_drewN | apply Kd.R_drew)); exact HL224_5.out) hb); have n2_ := Aside0.mk (Kd.R_below (by (with_reducible repeat (first | apply Kd.R_alloc | apply Kd.R_drewN | apply Kd.R_drew)); exact HL226_5.out) hb); have n3_ := Aside0.mk (Kd.S_lower (Kd.S_new' (Kd.S_new' (Kd.S_new' ho0 (Kd.S_lt (by (with_reducible repeat (first | apply Kd.S_alloc | apply Kd.S_drewN | apply Kd.S_drew)); exact HO_14.out))) (Kd.R_lt (by (with_reducible repeat (first | apply Kd.R_alloc | apply Kd.R_drewN | apply Kd.R_drew)); exact HL224_5.out))) (Kd.R_lt (by (with_reducible repeat (first | apply Kd.R_alloc | apply Kd.R_drewN | apply Kd.R_drew)); exact HL226_5.out))) (below_size (by repeat (first | (with_reducible first | exact HB.out | apply below_alloc | apply pw_below_drewN | apply below_drew1) | exact HB.out)))); have n4_ := Aside0.mk (below_step (by repeat (first | (with_reducible first | exact HB.out | apply below_alloc | apply pw_below_drewN | apply below_drew1) | exact HB.out)) hb); clear HO_14; clear HL224_5; clear HL226_5; clear HB; have HO_14 := n0_; have HL224_5 := n1_; have HL226_5 := n2_; have HO231 := n3_; have HB := n4_; clear n0_ n1_ n2_ n3_ n4_; (try clear hb); (try clear hb2); (try clear hk); (try clear hi); (try clear ho0)))
                  go_ret2
                  exact ⟨_, by first | rfl | (simp [errW_none, errW_some] <;> rfl) | (simp [*, errW_none, errW_some] <;> rfl), by (with_reducible repeat (first | apply Kd.S_alloc | apply Kd.S_drewN | apply Kd.S_drew)); exact Kd.S_mono HO231.out (fun _ hk => trivial), by repeat (first | (with_reducible first | exact HB.out | apply below_alloc | apply pw_below_drewN | apply below_drew1) | exact HB.out)⟩
                ·
                 rw [if_neg c66] at H
                 exact absurd H (by simp)
               ·
                rw [if_neg c65] at H
                exact absurd H (by simp)
              ·
               rw [if_neg c63] at H
               exact absurd H (by simp)
             ·
              rw [if_neg c62] at H
              exact absurd H (by simp)
         ·
          rw [if_neg c38] at H
          exact absurd H (by simp)
        ·
         rw [if_neg c37] at H
         exact absurd H (by simp)
       ·
        rw [if_neg c36] at H
        exact absurd H (by simp)
      ·
       rw [if_neg c34] at H
       exact absurd H (by simp)
     ·
      rw [if_neg c33] at H
      exact absurd H (by simp)
    ·
     rw [if_neg c32] at H
     exact absurd H (by simp)
end Go.Proofs.Ytiimiogpiflkdaa.A
end

section
namespace Go.Proofs.Ytiimiogpiflkdaa.A
open Go.RowKit Go.Proofs.YtiimiogpiflkdaaW.PrintWords Go.Proofs.YtiimiogpiflkdaaW.PrintLast Go.Proofs.YtiimiogpiflkdaaW.PrintMore
attribute [local go_sem] max2_int min2_int max_two min_two max_three min_three max_four min_four   -- for this text's walks alone
set_option linter.unusedVariables false
set_option linter.unusedSimpArgs false
def laws_heldIntS.l0 : Nat → List Int → Int → Int → Option (Int)
  | 0, _, _, _ => none
  | k + 1, x0, x1, x5 => if x5 < (x0.length : Int) then (if 0 ≤ x5 then (if (rd x0 x5) = x1 then (laws_heldIntS.l0 k x0 (wrap64 (x1 + 1)) (wrap64 (x5 + 1))) else (some (-1))) else (none)) else (some x1)
def laws_heldIntS.f (k : Nat) (l0 : List Int) (a1 : Int) : Option (Int) := laws_heldIntS.l0 k l0 a1 0
set_option maxHeartbeats 8000000 in
set_option maxRecDepth 100000 in
theorem laws_heldIntS.calls (k : Nat) (A0 : Option Addr) (c0 : Nat) (l0 : List Int) (a1 : Int) (r : Int) (w : World) (hr0 : Kd.C (Kd.int .i64) w A0 l0.length l0) (hc0 : l0.length ≤ c0) (h : laws_heldIntS.f k l0 a1 = some r) :
  Calls Try.prog 38 #[.slice A0 l0.length c0, .int .i64 a1] w fun e w' => e = .returned (.int .i64 r) ∧ Drawn0 w w' := by
 have HR0 := Aside0.mk hr0
 have HC0 := Aside0.mk hc0
 clear hr0 hc0
 have H : (laws_heldIntS.l0 k l0 a1 0) = some r := h
 clear h
 have H' := Aside0.mk H
 clear H
 go_enter Try.func38, Try.ntmps38
 go_wp2
 go_loopg [1, 5] k (fun kq v1 v5 w' => ∃ (x1_1 : Int) (x5_1 : Int), v1 = .int .i64 x1_1 ∧ v5 = .int .i64 x5_1 ∧ Aside0 (laws_heldIntS.l0 kq l0 x1_1 x5_1 = some r) ∧ Aside0 (kq ≤ k) ∧ Drawn0 w w')
 case atStart => exact ⟨(a1), (0), (by first | rfl | (simp; done) | (simp [*]; done)), (by first | rfl | (simp; done) | (simp [*]; done)), H', ⟨Nat.le_refl _⟩, by repeat (first | exact Drawn0.refl _ | apply Drawn0.step)⟩
 case round =>
  clear H'
  try clear p2
  obtain ⟨x1_1, x5_1, rfl, rfl, HA, HK1, ⟨m1, rfl⟩⟩ := hrel
  cases gk with
  | zero => exact absurd HA.out (by simp [laws_heldIntS.l0])
  | succ k1 =>
   have H := HA.out
   clear HA
   simp only [laws_heldIntS.l0] at H
   by_cases c3 : x5_1 < (l0.length : Int)
   ·
    rw [if_pos c3] at H
    have c3b0 : decide (x5_1 < (l0.length : Int)) = true := decide_eq_true c3
    clear c3
    by_cases c4 : 0 ≤ x5_1
    ·
     rw [if_pos c4] at H
     have c4b0 : decide (0 ≤ x5_1) = true := decide_eq_true c4
     clear c4
     by_cases c5 : (rd l0 x5_1) = x1_1
     ·
      rw [if_pos c5] at H
      have c5b0 : ((rd l0 x5_1) == x1_1) = true := beq_iff_eq.mpr c5
      have c5b1 : ((rd l0 x5_1) != x1_1) = false := bne_eq_false_iff_eq.mpr c5
      clear c5
      have H' := Aside0.mk H
      clear H
      have p212 : 0 ≤ (x5_1 : Int) := of_decide_eq_true (by first | (with_reducible assumption) | assumption)
      have q212 : x5_1 < (l0.length : Int) := of_decide_eq_true (by first | (with_reducible assumption) | assumption)
      obtain ⟨ad212, e212, hx212_0⟩ := Kd.at_int HR0.out x5_1 p212 q212
      cases e212
      replace p212 := eq_true p212
      replace q212 := eq_true q212
      go_wp2
      go_roundg k1
      case measure => have := HK1.out; omega
      case rel => exact ⟨(wrap64 (x1_1 + 1)), (wrap64 (x5_1 + 1)), (by first | rfl | (simp; done) | (simp [*]; done)), (by first | rfl | (simp; done) | (simp [*]; done)), H', ⟨by have := HK1.out; omega⟩, by repeat (first | exact Drawn0.refl _ | apply Drawn0.step)⟩
     ·
      rw [if_neg c5] at H
      have c5b0 : ((rd l0 x5_1) == x1_1) = false := beq_eq_false_iff_ne.mpr c5
      have c5b1 : ((rd l0 x5_1) != x1_1) = true := bne_iff_ne.mpr c5
      obtain rfl := Option.some.inj H
      have p212 : 0 ≤ (x5_1 : Int) := of_decide_eq_true (by first | (with_reducible assumption) | assumption)
      have q212 : x5_1 < (l0.length : Int) := of_decide_eq_true (by first | (with_reducible assumption) | assumption)
      obtain ⟨ad212, e212, hx212_0⟩ := Kd.at_int HR0.out x5_1 p212 q212
      cases e212
      replace p212 := eq_true p212
      replace q212 := eq_true q212
      go_wp2
      go_ret
      exact ⟨by first | rfl | (simp; done) | (simp [*]; done), by repeat (first | exact Drawn0.refl _ | apply Drawn0.step)⟩
    ·
     rw [if_neg c4] at H
     exact absurd H (by simp)
   ·
    rw [if_neg c3] at H
    have c3b0 : decide (x5_1 < (l0.length : Int)) = false := decide_eq_false c3
    clear c3
    obtain rfl := Option.some.inj H
    go_wp2
    go_ret
    exact ⟨by first | rfl | (simp; done) | (simp [*]; done), by repeat (first | exact Drawn0.refl _ | apply Drawn0.step)⟩
end Go.Proofs.Ytiimiogpiflkdaa.A
end

section
namespace Go.Proofs.Ytiimiogpiflkdaa.A
open Go.RowKit Go.Proofs.YtiimiogpiflkdaaW.PrintWords Go.Proofs.YtiimiogpiflkdaaW.PrintLast Go.Proofs.YtiimiogpiflkdaaW.PrintMore
attribute [local go_sem] max2_int min2_int max_two min_two max_three min_three max_four min_four   -- for this text's walks alone
set_option linter.unusedVariables false
set_option linter.unusedSimpArgs false
def laws_heldTeamS.l0 : Nat → List (S61) → Int → Int → Option (Int)
  | 0, _, _, _ => none
  | k + 1, x0, x1, x5 => if x5 < (x0.length : Int) then (if 0 ≤ x5 then (if ((rd_T61 x0 x5).f0) = x1 then (if ((rd_T61 x0 x5).f1) = (wrap64 (x1 + 1)) then (if ((rd_T61 x0 x5).f2) = (wrap64 ((wrap64 (x1 + 1)) + 1)) then (if ((rd_T61 x0 x5).f3) = (wrap64 ((wrap64 ((wrap64 (x1 + 1)) + 1)) + 1)) then (if ((rd_T61 x0 x5).f4) = (wrap64 ((wrap64 ((wrap64 ((wrap64 (x1 + 1)) + 1)) + 1)) + 1)) then ((laws_heldIntS.f k ((rd_T61 x0 x5).f5) (wrap64 ((wrap64 ((wrap64 ((wrap64 ((wrap64 (x1 + 1)) + 1)) + 1)) + 1)) + 1))).bind fun t219 => (if t219 < 0 then (some (-1)) else (laws_heldTeamS.l0 k x0 t219 (wrap64 (x5 + 1))))) else (some (-1))) else (some (-1))) else (some (-1))) else (some (-1))) else (some (-1))) else (none)) else (some x1)
def laws_heldTeamS.f (k : Nat) (l0 : List (S61)) (a1 : Int) : Option (Int) := laws_heldTeamS.l0 k l0 a1 0
set_option maxHeartbeats 8000000 in
set_option maxRecDepth 100000 in
theorem laws_heldTeamS.calls (k : Nat) (A0 : Option Addr) (c0 : Nat) (l0 : List (S61)) (a1 : Int) (r : Int) (w : World) (hr0 : Kd.C k61 w A0 l0.length l0) (hc0 : l0.length ≤ c0) (h : laws_heldTeamS.f k l0 a1 = some r) :
  Calls Try.prog 44 #[.slice A0 l0.length c0, .int .i64 a1] w fun e w' => e = .returned (.int .i64 r) ∧ Drawn0 w w' := by
 have HR0 := Aside0.mk hr0
 have HC0 := Aside0.mk hc0
 clear hr0 hc0
 have H : (laws_heldTeamS.l0 k l0 a1 0) = some r := h
 clear h
 have H' := Aside0.mk H
 clear H
 go_enter Try.func44, Try.ntmps44
 go_wp2
 go_loopg [1, 5] k (fun kq v1 v5 w' => ∃ (x1_1 : Int) (x5_1 : Int), v1 = .int .i64 x1_1 ∧ v5 = .int .i64 x5_1 ∧ Aside0 (laws_heldTeamS.l0 kq l0 x1_1 x5_1 = some r) ∧ Aside0 (kq ≤ k) ∧ Drawn0 w w')
 case atStart => exact ⟨(a1), (0), (by first | rfl | (simp; done) | (simp [*]; done)), (by first | rfl | (simp; done) | (simp [*]; done)), H', ⟨Nat.le_refl _⟩, by repeat (first | exact Drawn0.refl _ | apply Drawn0.step)⟩
 case round =>
  clear H'
  try clear p2
  obtain ⟨x1_1, x5_1, rfl, rfl, HA, HK1, ⟨m1, rfl⟩⟩ := hrel
  cases gk with
  | zero => exact absurd HA.out (by simp [laws_heldTeamS.l0])
  | succ k1 =>
   have H := HA.out
   clear HA
   simp only [laws_heldTeamS.l0] at H
   by_cases c3 : x5_1 < (l0.length : Int)
   ·
    rw [if_pos c3] at H
    have c3b0 : decide (x5_1 < (l0.length : Int)) = true := decide_eq_true c3
    clear c3
    by_cases c4 : 0 ≤ x5_1
    ·
     rw [if_pos c4] at H
     have c4b0 : decide (0 ≤ x5_1) = true := decide_eq_true c4
     clear c4
     by_cases c5 : ((rd_T61 l0 x5_1).f0) = x1_1
     ·
      rw [if_pos c5] at H
      have c5b0 : (((rd_T61 l0 x5_1).f0) == x1_1) = true := beq_iff_eq.mpr c5
      have c5b1 : (((rd_T61 l0 x5_1).f0) != x1_1) = false := bne_eq_false_iff_eq.mpr c5
      clear c5
      by_cases c6 : ((rd_T61 l0 x5_1).f1) = (wrap64 (x1_1 + 1))
      ·
       rw [if_pos c6] at H
       have c6b0 : (((rd_T61 l0 x5_1).f1) == (wrap64 (x1_1 + 1))) = true := beq_iff_eq.mpr c6
       have c6b1 : (((rd_T61 l0 x5_1).f1) != (wrap64 (x1_1 + 1))) = false := bne_eq_false_iff_eq.mpr c6
       clear c6
       by_cases c7 : ((rd_T61 l0 x5_1).f2) = (wrap64 ((wrap64 (x1_1 + 1)) + 1))
       ·
        rw [if_pos c7] at H
        have c7b0 : (((rd_T61 l0 x5_1).f2) == (wrap64 ((wrap64 (x1_1 + 1)) + 1))) = true := beq_iff_eq.mpr c7
        have c7b1 : (((rd_T61 l0 x5_1).f2) != (wrap64 ((wrap64 (x1_1 + 1)) + 1))) = false := bne_eq_false_iff_eq.mpr c7
        clear c7
        by_cases c8 : ((rd_T61 l0 x5_1).f3) = (wrap64 ((wrap64 ((wrap64 (x1_1 + 1)) + 1)) + 1))
        ·
         rw [if_pos c8] at H
         have c8b0 : (((rd_T61 l0 x5_1).f3) == (wrap64 ((wrap64 ((wrap64 (x1_1 + 1)) + 1)) + 1))) = true := beq_iff_eq.mpr c8
         have c8b1 : (((rd_T61 l0 x5_1).f3) != (wrap64 ((wrap64 ((wrap64 (x1_1 + 1)) + 1)) + 1))) = false := bne_eq_false_iff_eq.mpr c8
         clear c8
         by_cases c9 : ((rd_T61 l0 x5_1).f4) = (wrap64 ((wrap64 ((wrap64 ((wrap64 (x1_1 + 1)) + 1)) + 1)) + 1))
         ·
          rw [if_pos c9] at H
          have c9b0 : (((rd_T61 l0 x5_1).f4) == (wrap64 ((wrap64 ((wrap64 ((wrap64 (x1_1 + 1)) + 1)) + 1)) + 1))) = true := beq_iff_eq.mpr c9
          have c9b1 : (((rd_T61 l0 x5_1).f4) != (wrap64 ((wrap64 ((wrap64 ((wrap64 (x1_1 + 1)) + 1)) + 1)) + 1))) = false := bne_eq_false_iff_eq.mpr c9
          clear c9
          replace H := Option.bind_eq_some_iff.mp H
          obtain ⟨t219, A100, H⟩ := H
          replace H : (if t219 < 0 then (some (-1)) else (laws_heldTeamS.l0 k1 l0 t219 (wrap64 (x5_1 + 1)))) = some r := H
          have A10 := Aside0.mk A100
          clear A100
          by_cases c11 : t219 < 0
          ·
           rw [if_pos c11] at H
           have c11b0 : decide (t219 < 0) = true := decide_eq_true c11
           clear c11
           obtain rfl := Option.some.inj H
           have p213 : 0 ≤ (x5_1 : Int) := of_decide_eq_true (by first | (with_reducible assumption) | assumption)
           have q213 : x5_1 < (l0.length : Int) := of_decide_eq_true (by first | (with_reducible assumption) | assumption)
           obtain ⟨ad213, A213_5, c213_5, e213, hx213_0, hx213_1, hx213_2, hx213_3, hx213_4, hx213_5, hl213_5, hi213_5⟩ := at_T61 HR0.out x5_1 p213 q213
           cases e213
           have HR213_5 := Aside0.mk hi213_5
           have HC213_5 := Aside0.mk hl213_5
           clear hi213_5 hl213_5
           replace p213 := eq_true p213
           replace q213 := eq_true q213
           have p214 : 0 ≤ (x5_1 : Int) := of_decide_eq_true (by first | (with_reducible assumption) | assumption)
           have q214 : x5_1 < (l0.length : Int) := of_decide_eq_true (by first | (with_reducible assumption) | assumption)
           obtain ⟨ad214, A214_5, c214_5, e214, hx214_0, hx214_1, hx214_2, hx214_3, hx214_4, hx214_5, hl214_5, hi214_5⟩ := at_T61 HR0.out x5_1 p214 q214
           obtain rfl : ad213 = ad214 := (by injection e214)
           have HR214_5 := Aside0.mk hi214_5
           have HC214_5 := Aside0.mk hl214_5
           clear hi214_5 hl214_5
           replace p214 := eq_true p214
           replace q214 := eq_true q214
           have ea_ := Option.some.inj (hx213_5.symm.trans hx214_5)
           injection ea_ with ea_ en_ ec_
           subst ea_
           subst ec_
           clear en_
           have p215 : 0 ≤ (x5_1 : Int) := of_decide_eq_true (by first | (with_reducible assumption) | assumption)
           have q215 : x5_1 < (l0.length : Int) := of_decide_eq_true (by first | (with_reducible assumption) | assumption)
           obtain ⟨ad215, A215_5, c215_5, e215, hx215_0, hx215_1, hx215_2, hx215_3, hx215_4, hx215_5, hl215_5, hi215_5⟩ := at_T61 HR0.out x5_1 p215 q215
           obtain rfl : ad213 = ad215 := (by injection e215)
           have HR215_5 := Aside0.mk hi215_5
           have HC215_5 := Aside0.mk hl215_5
           clear hi215_5 hl215_5
           replace p215 := eq_true p215
           replace q215 := eq_true q215
           have ea_ := Option.some.inj (hx213_5.symm.trans hx215_5)
           injection ea_ with ea_ en_ ec_
           subst ea_
           subst ec_
           clear en_
           have p216 : 0 ≤ (x5_1 : Int) := of_decide_eq_true (by first | (with_reducible assumption) | assumption)
           have q216 : x5_1 < (l0.length : Int) := of_decide_eq_true (by first | (with_reducible assumption) | assumption)
           obtain ⟨ad216, A216_5, c216_5, e216, hx216_0, hx216_1, hx216_2, hx216_3, hx216_4, hx216_5, hl216_5, hi216_5⟩ := at_T61 HR0.out x5_1 p216 q216
           obtain rfl : ad213 = ad216 := (by injection e216)
           have HR216_5 := Aside0.mk hi216_5
           have HC216_5 := Aside0.mk hl216_5
           clear hi216_5 hl216_5
           replace p216 := eq_true p216
           replace q216 := eq_true q216
           have ea_ := Option.some.inj (hx213_5.symm.trans hx216_5)
           injection ea_ with ea_ en_ ec_
           subst ea_
           subst ec_
           clear en_
           have p217 : 0 ≤ (x5_1 : Int) := of_decide_eq_true (by first | (with_reducible assumption) | assumption)
           have q217 : x5_1 < (l0.length : Int) := of_decide_eq_true (by first | (with_reducible assumption) | assumption)
           obtain ⟨ad217, A217_5, c217_5, e217, hx217_0, hx217_1, hx217_2, hx217_3, hx217_4, hx217_5, hl217_5, hi217_5⟩ := at_T61 HR0.out x5_1 p217 q217
           obtain rfl : ad213 = ad217 := (by injection e217)
           have HR217_5 := Aside0.mk hi217_5
           have HC217_5 := Aside0.mk hl217_5
           clear hi217_5 hl217_5
           replace p217 := eq_true p217
           replace q217 := eq_true q217
           have ea_ := Option.some.inj (hx213_5.symm.trans hx217_5)
           injection ea_ with ea_ en_ ec_
           subst ea_
           subst ec_
           clear en_
           have p218 : 0 ≤ (x5_1 : Int) := of_decide_eq_true (by first | (with_reducible assumption) | assumption)
           have q218 : x5_1 < (l0.length : Int) := of_decide_eq_true (by first | (with_reducible assumption) | assumption)
           obtain ⟨ad218, A218_5, c218_5, e218, hx218_0, hx218_1, hx218_2, hx218_3, hx218_4, hx218_5, hl218_5, hi218_5⟩ := at_T61 HR0.out x5_1 p218 q218
           obtain rfl : ad213 = ad218 := (by injection e218)
           have HR218_5 := Aside0.mk hi218_5
           have HC218_5 := Aside0.mk hl218_5
           clear hi218_5 hl218_5
           replace p218 := eq_true p218
           replace q218 := eq_true q218
           have ea_ := Option.some.inj (hx213_5.symm.trans hx218_5)
           injection ea_ with ea_ en_ ec_
           subst ea_
           subst ec_
           clear en_
           go_wp2_with (first | ((with_reducible refine gate_callee (f := 38) rfl ?_); refine goesL_ (some 63) rfl rfl Try.func38 (by kernel_rfl) rfl #[.slice A213_5 ((rd_T61 l0 x5_1).f5).length c213_5, .int .i64 (wrap64 ((wrap64 ((wrap64 ((wrap64 ((wrap64 (x1_1 + 1)) + 1)) + 1)) + 1)) + 1))] rfl (by (try simp only [List.map_toArray, List.map_cons, List.map_nil]); first | done | rfl | (simp only [List.length_drop, List.length_take]; rfl)) ?_; (with_reducible refine (laws_heldIntS.calls k1 _ _ ((rd_T61 l0 x5_1).f5) (wrap64 ((wrap64 ((wrap64 ((wrap64 ((wrap64 (x1_1 + 1)) + 1)) + 1)) + 1)) + 1)) t219 _ ?side1 ?side2 A10.out).mono ?_); (case side1 => repeat (first | exact HR218_5.out | (with_reducible refine Kd.C_alloc ?_ _) | (with_reducible refine Kd.C_drewN ?_ _) | (with_reducible refine Kd.C_drew ?_))); (case side2 => exact HC218_5.out); rintro e w' ⟨rfl, ⟨nd, rfl⟩⟩; refine ⟨_, rfl, ?_⟩))
           go_ret
           exact ⟨by first | rfl | (simp; done) | (simp [*]; done), by repeat (first | exact Drawn0.refl _ | apply Drawn0.step)⟩
          ·
           rw [if_neg c11] at H
           have c11b0 : decide (t219 < 0) = false := decide_eq_false c11
           clear c11
           have H' := Aside0.mk H
           clear H
           have p213 : 0 ≤ (x5_1 : Int) := of_decide_eq_true (by first | (with_reducible assumption) | assumption)
           have q213 : x5_1 < (l0.length : Int) := of_decide_eq_true (by first | (with_reducible assumption) | assumption)
           obtain ⟨ad213, A213_5, c213_5, e213, hx213_0, hx213_1, hx213_2, hx213_3, hx213_4, hx213_5, hl213_5, hi213_5⟩ := at_T61 HR0.out x5_1 p213 q213
           cases e213
           have HR213_5 := Aside0.mk hi213_5
           have HC213_5 := Aside0.mk hl213_5
           clear hi213_5 hl213_5
           replace p213 := eq_true p213
           replace q213 := eq_true q213
           have p214 : 0 ≤ (x5_1 : Int) := of_decide_eq_true (by first | (with_reducible assumption) | assumption)
           have q214 : x5_1 < (l0.length : Int) := of_decide_eq_true (by first | (with_reducible assumption) | assumption)
           obtain ⟨ad214, A214_5, c214_5, e214, hx214_0, hx214_1, hx214_2, hx214_3, hx214_4, hx214_5, hl214_5, hi214_5⟩ := at_T61 HR0.out x5_1 p214 q214
           obtain rfl : ad213 = ad214 := (by injection e214)
           have HR214_5 := Aside0.mk hi214_5
           have HC214_5 := Aside0.mk hl214_5
           clear hi214_5 hl214_5
           replace p214 := eq_true p214
           replace q214 := eq_true q214
           have ea_ := Option.some.inj (hx213_5.symm.trans hx214_5)
           injection ea_ with ea_ en_ ec_
           subst ea_
           subst ec_
           clear en_
           have p215 : 0 ≤ (x5_1 : Int) := of_decide_eq_true (by first | (with_reducible assumption) | assumption)
           have q215 : x5_1 < (l0.length : Int) := of_decide_eq_true (by first | (with_reducible assumption) | assumption)
           obtain ⟨ad215, A215_5, c215_5, e215, hx215_0, hx215_1, hx215_2, hx215_3, hx215_4, hx215_5, hl215_5, hi215_5⟩ := at_T61 HR0.out x5_1 p215 q215
           obtain rfl : ad213 = ad215 := (by injection e215)
           have HR215_5 := Aside0.mk hi215_5
           have HC215_5 := Aside0.mk hl215_5
           clear hi215_5 hl215_5
           replace p215 := eq_true p215
           replace q215 := eq_true q215
           have ea_ := Option.some.inj (hx213_5.symm.trans hx215_5)
           injection ea_ with ea_ en_ ec_
           subst ea_
           subst ec_
           clear en_
           have p216 : 0 ≤ (x5_1 : Int) := of_decide_eq_true (by first | (with_reducible assumption) | assumption)
           have q216 : x5_1 < (l0.length : Int) := of_decide_eq_true (by first | (with_reducible assumption) | assumption)
           obtain ⟨ad216, A216_5, c216_5, e216, hx216_0, hx216_1, hx216_2, hx216_3, hx216_4, hx216_5, hl216_5, hi216_5⟩ := at_T61 HR0.out x5_1 p216 q216
           obtain rfl : ad213 = ad216 := (by injection e216)
           have HR216_5 := Aside0.mk hi216_5
           have HC216_5 := Aside0.mk hl216_5
           clear hi216_5 hl216_5
           replace p216 := eq_true p216
           replace q216 := eq_true q216
           have ea_ := Option.some.inj (hx213_5.symm.trans hx216_5)
           injection ea_ with ea_ en_ ec_
           subst ea_
           subst ec_
           clear en_
           have p217 : 0 ≤ (x5_1 : Int) := of_decide_eq_true (by first | (with_reducible assumption) | assumption)
           have q217 : x5_1 < (l0.length : Int) := of_decide_eq_true (by first | (with_reducible assumption) | assumption)
           obtain ⟨ad217, A217_5, c217_5, e217, hx217_0, hx217_1, hx217_2, hx217_3, hx217_4, hx217_5, hl217_5, hi217_5⟩ := at_T61 HR0.out x5_1 p217 q217
           obtain rfl : ad213 = ad217 := (by injection e217)
           have HR217_5 := Aside0.mk hi217_5
           have HC217_5 := Aside0.mk hl217_5
           clear hi217_5 hl217_5
           replace p217 := eq_true p217
           replace q217 := eq_true q217
           have ea_ := Option.some.inj (hx213_5.symm.trans hx217_5)
           injection ea_ with ea_ en_ ec_
           subst ea_
           subst ec_
           clear en_
           have p218 : 0 ≤ (x5_1 : Int) := of_decide_eq_true (by first | (with_reducible assumption) | assumption)
           have q218 : x5_1 < (l0.length : Int) := of_decide_eq_true (by first | (with_reducible assumption) | assumption)
           obtain ⟨ad218, A218_5, c218_5, e218, hx218_0, hx218_1, hx218_2, hx218_3, hx218_4, hx218_5, hl218_5, hi218_5⟩ := at_T61 HR0.out x5_1 p218 q218
           obtain rfl : ad213 = ad218 := (by injection e218)
           have HR218_5 := Aside0.mk hi218_5
           have HC218_5 := Aside0.mk hl218_5
           clear hi218_5 hl218_5
           replace p218 := eq_true p218
           replace q218 := eq_true q218
           have ea_ := Option.some.inj (hx213_5.symm.trans hx218_5)
           injection ea_ with ea_ en_ ec_
           subst ea_
           subst ec_
           clear en_
           go_wp2_with (first | ((with_reducible refine gate_callee (f := 38) rfl ?_); refine goesL_ (some 63) rfl rfl Try.func38 (by kernel_rfl) rfl #[.slice A213_5 ((rd_T61 l0 x5_1).f5).length c213_5, .int .i64 (wrap64 ((wrap64 ((wrap64 ((wrap64 ((wrap64 (x1_1 + 1)) + 1)) + 1)) + 1)) + 1))] rfl (by (try simp only [List.map_toArray, List.map_cons, List.map_nil]); first | done | rfl | (simp only [List.length_drop, List.length_take]; rfl)) ?_; (with_reducible refine (laws_heldIntS.calls k1 _ _ ((rd_T61 l0 x5_1).f5) (wrap64 ((wrap64 ((wrap64 ((wrap64 ((wrap64 (x1_1 + 1)) + 1)) + 1)) + 1)) + 1)) t219 _ ?side1 ?side2 A10.out).mono ?_); (case side1 => repeat (first | exact HR218_5.out | (with_reducible refine Kd.C_alloc ?_ _) | (with_reducible refine Kd.C_drewN ?_ _) | (with_reducible refine Kd.C_drew ?_))); (case side2 => exact HC218_5.out); rintro e w' ⟨rfl, ⟨nd, rfl⟩⟩; refine ⟨_, rfl, ?_⟩))
           go_roundg k1
           case measure => have := HK1.out; omega
           case rel => exact ⟨(t219), (wrap64 (x5_1 + 1)), (by first | rfl | (simp; done) | (simp [*]; done)), (by first | rfl | (simp; done) | (simp [*]; done)), H', ⟨by have := HK1.out; omega⟩, by repeat (first | exact Drawn0.refl _ | apply Drawn0.step)⟩
         ·
          rw [if_neg c9] at H
          have c9b0 : (((rd_T61 l0 x5_1).f4) == (wrap64 ((wrap64 ((wrap64 ((wrap64 (x1_1 + 1)) + 1)) + 1)) + 1))) = false := beq_eq_false_iff_ne.mpr c9
          have c9b1 : (((rd_T61 l0 x5_1).f4) != (wrap64 ((wrap64 ((wrap64 ((wrap64 (x1_1 + 1)) + 1)) + 1)) + 1))) = true := bne_iff_ne.mpr c9
          obtain rfl := Option.some.inj H
          have p213 : 0 ≤ (x5_1 : Int) := of_decide_eq_true (by first | (with_reducible assumption) | assumption)
          have q213 : x5_1 < (l0.length : Int) := of_decide_eq_true (by first | (with_reducible assumption) | assumption)
          obtain ⟨ad213, A213_5, c213_5, e213, hx213_0, hx213_1, hx213_2, hx213_3, hx213_4, hx213_5, hl213_5, hi213_5⟩ := at_T61 HR0.out x5_1 p213 q213
          cases e213
          have HR213_5 := Aside0.mk hi213_5
          have HC213_5 := Aside0.mk hl213_5
          clear hi213_5 hl213_5
          replace p213 := eq_true p213
          replace q213 := eq_true q213
          have p214 : 0 ≤ (x5_1 : Int) := of_decide_eq_true (by first | (with_reducible assumption) | assumption)
          have q214 : x5_1 < (l0.length : Int) := of_decide_eq_true (by first | (with_reducible assumption) | assumption)
          obtain ⟨ad214, A214_5, c214_5, e214, hx214_0, hx214_1, hx214_2, hx214_3, hx214_4, hx214_5, hl214_5, hi214_5⟩ := at_T61 HR0.out x5_1 p214 q214
          obtain rfl : ad213 = ad214 := (by injection e214)
          have HR214_5 := Aside0.mk hi214_5
          have HC214_5 := Aside0.mk hl214_5
          clear hi214_5 hl214_5
          replace p214 := eq_true p214
          replace q214 := eq_true q214
          have ea_ := Option.some.inj (hx213_5.symm.trans hx214_5)
          injection ea_ with ea_ en_ ec_
          subst ea_
          subst ec_
          clear en_
          have p215 : 0 ≤ (x5_1 : Int) := of_decide_eq_true (by first | (with_reducible assumption) | assumption)
          have q215 : x5_1 < (l0.length : Int) := of_decide_eq_true (by first | (with_reducible assumption) | assumption)
          obtain ⟨ad215, A215_5, c215_5, e215, hx215_0, hx215_1, hx215_2, hx215_3, hx215_4, hx215_5, hl215_5, hi215_5⟩ := at_T61 HR0.out x5_1 p215 q215
          obtain rfl : ad213 = ad215 := (by injection e215)
          have HR215_5 := Aside0.mk hi215_5
          have HC215_5 := Aside0.mk hl215_5
          clear hi215_5 hl215_5
          replace p215 := eq_true p215
          replace q215 := eq_true q215
          have ea_ := Option.some.inj (hx213_5.symm.trans hx215_5)
          injection ea_ with ea_ en_ ec_
          subst ea_
          subst ec_
          clear en_
          have p216 : 0 ≤ (x5_1 : Int) := of_decide_eq_true (by first | (with_reducible assumption) | assumption)
          have q216 : x5_1 < (l0.length : Int) := of_decide_eq_true (by first | (with_reducible assumption) | assumption)
          obtain ⟨ad216, A216_5, c216_5, e216, hx216_0, hx216_1, hx216_2, hx216_3, hx216_4, hx216_5, hl216_5, hi216_5⟩ := at_T61 HR0.out x5_1 p216 q216
          obtain rfl : ad213 = ad216 := (by injection e216)
          have HR216_5 := Aside0.mk hi216_5
          have HC216_5 := Aside0.mk hl216_5
          clear hi216_5 hl216_5
          replace p216 := eq_true p216
          replace q216 := eq_true q216
          have ea_ := Option.some.inj (hx213_5.symm.trans hx216_5)
          injection ea_ with ea_ en_ ec_
          subst ea_
          subst ec_
          clear en_
          have p217 : 0 ≤ (x5_1 : Int) := of_decide_eq_true (by first | (with_reducible assumption) | assumption)
          have q217 : x5_1 < (l0.length : Int) := of_decide_eq_true (by first | (with_reducible assumption) | assumption)
          obtain ⟨ad217, A217_5, c217_5, e217, hx217_0, hx217_1, hx217_2, hx217_3, hx217_4, hx217_5, hl217_5, hi217_5⟩ := at_T61 HR0.out x5_1 p217 q217
          obtain rfl : ad213 = ad217 := (by injection e217)
          have HR217_5 := Aside0.mk hi217_5
          have HC217_5 := Aside0.mk hl217_5
          clear hi217_5 hl217_5
          replace p217 := eq_true p217
          replace q217 := eq_true q217
          have ea_ := Option.some.inj (hx213_5.symm.trans hx217_5)
          injection ea_ with ea_ en_ ec_
          subst ea_
          subst ec_
          clear en_
          go_wp2
          go_ret
          exact ⟨by first | rfl | (simp; done) | (simp [*]; done), by repeat (first | exact Drawn0.refl _ | apply Drawn0.step)⟩
        ·
         rw [if_neg c8] at H
         have c8b0 : (((rd_T61 l0 x5_1).f3) == (wrap64 ((wrap64 ((wrap64 (x1_1 + 1)) + 1)) + 1))) = false := beq_eq_false_iff_ne.mpr c8
         have c8b1 : (((rd_T61 l0 x5_1).f3) != (wrap64 ((wrap64 ((wrap64 (x1_1 + 1)) + 1)) + 1))) = true := bne_iff_ne.mpr c8
         obtain rfl := Option.some.inj H
         have p213 : 0 ≤ (x5_1 : Int) := of_decide_eq_true (by first | (with_reducible assumption) | assumption)
         have q213 : x5_1 < (l0.length : Int) := of_decide_eq_true (by first | (with_reducible assumption) | assumption)
         obtain ⟨ad213, A213_5, c213_5, e213, hx213_0, hx213_1, hx213_2, hx213_3, hx213_4, hx213_5, hl213_5, hi213_5⟩ := at_T61 HR0.out x5_1 p213 q213
         cases e213
         have HR213_5 := Aside0.mk hi213_5
         have HC213_5 := Aside0.mk hl213_5
         clear hi213_5 hl213_5
         replace p213 := eq_true p213
         replace q213 := eq_true q213
         have p214 : 0 ≤ (x5_1 : Int) := of_decide_eq_true (by first | (with_reducible assumption) | assumption)
         have q214 : x5_1 < (l0.length : Int) := of_decide_eq_true (by first | (with_reducible assumption) | assumption)
         obtain ⟨ad214, A214_5, c214_5, e214, hx214_0, hx214_1, hx214_2, hx214_3, hx214_4, hx214_5, hl214_5, hi214_5⟩ := at_T61 HR0.out x5_1 p214 q214
         obtain rfl : ad213 = ad214 := (by injection e214)
         have HR214_5 := Aside0.mk hi214_5
         have HC214_5 := Aside0.mk hl214_5
         clear hi214_5 hl214_5
         replace p214 := eq_true p214
         replace q214 := eq_true q214
         have ea_ := Option.some.inj (hx213_5.symm.trans hx214_5)
         injection ea_ with ea_ en_ ec_
         subst ea_
         subst ec_
         clear en_
         have p215 : 0 ≤ (x5_1 : Int) := of_decide_eq_true (by first | (with_reducible assumption) | assumption)
         have q215 : x5_1 < (l0.length : Int) := of_decide_eq_true (by first | (with_reducible assumption) | assumption)
         obtain ⟨ad215, A215_5, c215_5, e215, hx215_0, hx215_1, hx215_2, hx215_3, hx215_4, hx215_5, hl215_5, hi215_5⟩ := at_T61 HR0.out x5_1 p215 q215
         obtain rfl : ad213 = ad215 := (by injection e215)
         have HR215_5 := Aside0.mk hi215_5
         have HC215_5 := Aside0.mk hl215_5
         clear hi215_5 hl215_5
         replace p215 := eq_true p215
         replace q215 := eq_true q215
         have ea_ := Option.some.inj (hx213_5.symm.trans hx215_5)
         injection ea_ with ea_ en_ ec_
         subst ea_
         subst ec_
         clear en_
         have p216 : 0 ≤ (x5_1 : Int) := of_decide_eq_true (by first | (with_reducible assumption) | assumption)
         have q216 : x5_1 < (l0.length : Int) := of_decide_eq_true (by first | (with_reducible assumption) | assumption)
         obtain ⟨ad216, A216_5, c216_5, e216, hx216_0, hx216_1, hx216_2, hx216_3, hx216_4, hx216_5, hl216_5, hi216_5⟩ := at_T61 HR0.out x5_1 p216 q216
         obtain rfl : ad213 = ad216 := (by injection e216)
         have HR216_5 := Aside0.mk hi216_5
         have HC216_5 := Aside0.mk hl216_5
         clear hi216_5 hl216_5
         replace p216 := eq_true p216
         replace q216 := eq_true q216
         have ea_ := Option.some.inj (hx213_5.symm.trans hx216_5)
         injection ea_ with ea_ en_ ec_
         subst ea_
         subst ec_
         clear en_
         go_wp2
         go_ret
         exact ⟨by first | rfl | (simp; done) | (simp [*]; done), by repeat (first | exact Drawn0.refl _ | apply Drawn0.step)⟩
       ·
        rw [if_neg c7] at H
        have c7b0 : (((rd_T61 l0 x5_1).f2) == (wrap64 ((wrap64 (x1_1 + 1)) + 1))) = false := beq_eq_false_iff_ne.mpr c7
        have c7b1 : (((rd_T61 l0 x5_1).f2) != (wrap64 ((wrap64 (x1_1 + 1)) + 1))) = true := bne_iff_ne.mpr c7
        obtain rfl := Option.some.inj H
        have p213 : 0 ≤ (x5_1 : Int) := of_decide_eq_true (by first | (with_reducible assumption) | assumption)
        have q213 : x5_1 < (l0.length : Int) := of_decide_eq_true (by first | (with_reducible assumption) | assumption)
        obtain ⟨ad213, A213_5, c213_5, e213, hx213_0, hx213_1, hx213_2, hx213_3, hx213_4, hx213_5, hl213_5, hi213_5⟩ := at_T61 HR0.out x5_1 p213 q213
        cases e213
        have HR213_5 := Aside0.mk hi213_5
        have HC213_5 := Aside0.mk hl213_5
        clear hi213_5 hl213_5
        replace p213 := eq_true p213
        replace q213 := eq_true q213
        have p214 : 0 ≤ (x5_1 : Int) := of_decide_eq_true (by first | (with_reducible assumption) | assumption)
        have q214 : x5_1 < (l0.length : Int) := of_decide_eq_true (by first | (with_reducible assumption) | assumption)
        obtain ⟨ad214, A214_5, c214_5, e214, hx214_0, hx214_1, hx214_2, hx214_3, hx214_4, hx214_5, hl214_5, hi214_5⟩ := at_T61 HR0.out x5_1 p214 q214
        obtain rfl : ad213 = ad214 := (by injection e214)
        have HR214_5 := Aside0.mk hi214_5
        have HC214_5 := Aside0.mk hl214_5
        clear hi214_5 hl214_5
        replace p214 := eq_true p214
        replace q214 := eq_true q214
        have ea_ := Option.some.inj (hx213_5.symm.trans hx214_5)
        injection ea_ with ea_ en_ ec_
        subst ea_
        subst ec_
        clear en_
        have p215 : 0 ≤ (x5_1 : Int) := of_decide_eq_true (by first | (with_reducible assumption) | assumption)
        have q215 : x5_1 < (l0.length : Int) := of_decide_eq_true (by first | (with_reducible assumption) | assumption)
        obtain ⟨ad215, A215_5, c215_5, e215, hx215_0, hx215_1, hx215_2, hx215_3, hx215_4, hx215_5, hl215_5, hi215_5⟩ := at_T61 HR0.out x5_1 p215 q215
        obtain rfl : ad213 = ad215 := (by injection e215)
        have HR215_5 := Aside0.mk hi215_5
        have HC215_5 := Aside0.mk hl215_5
        clear hi215_5 hl215_5
        replace p215 := eq_true p215
        replace q215 := eq_true q215
        have ea_ := Option.some.inj (hx213_5.symm.trans hx215_5)
        injection ea_ with ea_ en_ ec_
        subst ea_
        subst ec_
        clear en_
        go_wp2
        go_ret
        exact ⟨by first | rfl | (simp; done) | (simp [*]; done), by repeat (first | exact Drawn0.refl _ | apply Drawn0.step)⟩
      ·
       rw [if_neg c6] at H
       have c6b0 : (((rd_T61 l0 x5_1).f1) == (wrap64 (x1_1 + 1))) = false := beq_eq_false_iff_ne.mpr c6
       have c6b1 : (((rd_T61 l0 x5_1).f1) != (wrap64 (x1_1 + 1))) = true := bne_iff_ne.mpr c6
       obtain rfl := Option.some.inj H
       have p213 : 0 ≤ (x5_1 : Int) := of_decide_eq_true (by first | (with_reducible assumption) | assumption)
       have q213 : x5_1 < (l0.length : Int) := of_decide_eq_true (by first | (with_reducible assumption) | assumption)
       obtain ⟨ad213, A213_5, c213_5, e213, hx213_0, hx213_1, hx213_2, hx213_3, hx213_4, hx213_5, hl213_5, hi213_5⟩ := at_T61 HR0.out x5_1 p213 q213
       cases e213
       have HR213_5 := Aside0.mk hi213_5
       have HC213_5 := Aside0.mk hl213_5
       clear hi213_5 hl213_5
       replace p213 := eq_true p213
       replace q213 := eq_true q213
       have p214 : 0 ≤ (x5_1 : Int) := of_decide_eq_true (by first | (with_reducible assumption) | assumption)
       have q214 : x5_1 < (l0.length : Int) := of_decide_eq_true (by first | (with_reducible assumption) | assumption)
       obtain ⟨ad214, A214_5, c214_5, e214, hx214_0, hx214_1, hx214_2, hx214_3, hx214_4, hx214_5, hl214_5, hi214_5⟩ := at_T61 HR0.out x5_1 p214 q214
       obtain rfl : ad213 = ad214 := (by injection e214)
       have HR214_5 := Aside0.mk hi214_5
       have HC214_5 := Aside0.mk hl214_5
       clear hi214_5 hl214_5
       replace p214 := eq_true p214
       replace q214 := eq_true q214
       have ea_ := Option.some.inj (hx213_5.symm.trans hx214_5)
       injection ea_ with ea_ en_ ec_
       subst ea_
       subst ec_
       clear en_
       go_wp2
       go_ret
       exact ⟨by first | rfl | (simp; done) | (simp [*]; done), by repeat (first | exact Drawn0.refl _ | apply Drawn0.step)⟩
     ·
      rw [if_neg c5] at H
      have c5b0 : (((rd_T61 l0 x5_1).f0) == x1_1) = false := beq_eq_false_iff_ne.mpr c5
      have c5b1 : (((rd_T61 l0 x5_1).f0) != x1_1) = true := bne_iff_ne.mpr c5
      obtain rfl := Option.some.inj H
      have p213 : 0 ≤ (x5_1 : Int) := of_decide_eq_true (by first | (with_reducible assumption) | assumption)
      have q213 : x5_1 < (l0.length : Int) := of_decide_eq_true (by first | (with_reducible assumption) | assumption)
      obtain ⟨ad213, A213_5, c213_5, e213, hx213_0, hx213_1, hx213_2, hx213_3, hx213_4, hx213_5, hl213_5, hi213_5⟩ := at_T61 HR0.out x5_1 p213 q213
      cases e213
      have HR213_5 := Aside0.mk hi213_5
      have HC213_5 := Aside0.mk hl213_5
      clear hi213_5 hl213_5
      replace p213 := eq_true p213
      replace q213 := eq_true q213
      go_wp2
      go_ret
      exact ⟨by first | rfl | (simp; done) | (simp [*]; done), by repeat (first | exact Drawn0.refl _ | apply Drawn0.step)⟩
    ·
     rw [if_neg c4] at H
     exact absurd H (by simp)
   ·
    rw [if_neg c3] at H
    have c3b0 : decide (x5_1 < (l0.length : Int)) = false := decide_eq_false c3
    clear c3
    obtain rfl := Option.some.inj H
    go_wp2
    go_ret
    exact ⟨by first | rfl | (simp; done) | (simp [*]; done), by repeat (first | exact Drawn0.refl _ | apply Drawn0.step)⟩
end Go.Proofs.Ytiimiogpiflkdaa.A
end

section
set_option linter.unusedVariables false
set_option linter.unusedSimpArgs false
namespace Go.Proofs.Ytiimiogpiflkdaa.M
open Go.RowKit Go.Proofs.YtiimiogpiflkdaaW.PrintWords Go.Proofs.YtiimiogpiflkdaaW.PrintLast Go.Proofs.YtiimiogpiflkdaaW.PrintMore
set_option maxHeartbeats 4000000 in
set_option maxRecDepth 100000 in
theorem markI_calls (P : Nat → Prop) (A : Option Addr) (n c : Nat) (a1 : Int) (w : World) (h : RowI P w A n) (h0 : 0 ≤ a1) (h1 : a1 + n ≤ 4611686018427387904) :
    Calls Try.prog 37 #[.slice A n c, .int .i64 a1] w fun e w' => e = .returned (.int .i64 (a1 + n)) ∧ MI P w w' := by
  have HR := Aside0.mk h
  have H0 := Aside0.mk h0
  have H1 := Aside0.mk h1
  clear h h0 h1
  go_enter Try.func37, Try.ntmps37
  go_wp2
  go_loopg [1, 5] n (fun gg v1 v5 wr => ∃ (kk : Nat) (x1 : Int), v1 = .int .i64 x1 ∧ v5 = .int .i64 kk ∧ Aside0 (x1 = a1 + kk) ∧ Aside0 (kk ≤ n ∧ n - kk ≤ gg) ∧ Aside0 (MI P w wr))
  case atStart => exact ⟨0, a1, rfl, rfl, ⟨by simp⟩, ⟨by omega⟩, ⟨MI.refl P w⟩⟩
  case round =>
    obtain ⟨kk, x1, rfl, rfl, HX, HI, HM⟩ := hrel
    by_cases hlt : kk < n
    · have hltb : ((kk : Int) < (n : Int)) = True := eq_true (by omega)
      obtain ⟨g, rfl, hP, hgl, hc⟩ := (HR.out.mi HM.out).2 (by omega)
      obtain ⟨⟨x, hx⟩, hf⟩ := hc kk hlt
      have HP := Aside0.mk hP
      have HC : Aside0 (wr.cell? ⟨g, kk, none⟩ = some (.int .i64 x)) := ⟨hx⟩
      have HLT := Aside0.mk hlt
      have HW1 : Aside0 (wrap64 (x1 + 1) = a1 + ((kk + 1 : Nat) : Int)) := ⟨by have := H1.out; have := HX.out; have := H0.out; unfold wrap64; omega⟩
      have HW5 : Aside0 (wrap64 ((kk : Int) + 1) = ((kk + 1 : Nat) : Int)) := ⟨by have := H1.out; have := H0.out; unfold wrap64; omega⟩
      clear hc hP hgl hlt
      go_wp2
      go_roundg (n - (kk + 1))
      case measure => have := HI.out; have := HLT.out; omega
      case rel => exact ⟨kk + 1, wrap64 (x1 + 1), rfl, by rw [HW5.out], HW1, ⟨by have := HLT.out; omega⟩, ⟨HM.out.set HP.out HC.out _⟩⟩
    · have hltb : ((kk : Int) < (n : Int)) = False := eq_false (by omega)
      have HLT := Aside0.mk hlt
      clear hlt
      go_wp2
      go_ret
      refine ⟨?_, HM.out⟩
      have e : x1 = a1 + (n : Int) := by have := HI.out; have := HLT.out; have := HX.out; omega
      rw [← e]
      rfl
theorem drawn_below {w w' : World} (h : Drawn0 w w') : Below w.heap.size w w' := by
  obtain ⟨n, rfl⟩ := h.out
  exact pw_below_drewN (Below.refl _ _) n
theorem own_interval {α : Type} {d : Kd α} {e : Nat} {w w' : World} {v : Value} {xs : List α} (h : Kd.R d e w' w.heap.size (fun _ => True) v xs) : Kd.R d e w' w.heap.size (fun k => w.heap.size ≤ k ∧ k < w'.heap.size) v xs :=
  Kd.R_mono (Kd.R_bound h) (fun k hk => ⟨hk.2.1, hk.2.2.1⟩)
end Go.Proofs.Ytiimiogpiflkdaa.M
end

section
namespace Go.Proofs.Ytiimiogpiflkdaa.A
open Go.RowKit Go.Proofs.YtiimiogpiflkdaaW.PrintWords Go.Proofs.YtiimiogpiflkdaaW.PrintLast Go.Proofs.YtiimiogpiflkdaaW.PrintMore
attribute [local go_sem] max2_int min2_int max_two min_two max_three min_three max_four min_four   -- for this text's walks alone
set_option linter.unusedVariables false
set_option linter.unusedSimpArgs false
def laws_markIntS.l0 : Nat → List Int → Int → Int → Option (Int × List Int)
  | 0, _, _, _ => none
  | k + 1, x0, x1, x5 => if x5 < (x0.length : Int) then (if 0 ≤ x5 then (laws_markIntS.l0 k (x0.set (x5 : Int).toNat x1) (wrap64 (x1 + 1)) (wrap64 (x5 + 1))) else (none)) else (some (x1, x0))
def laws_markIntS.f (k : Nat) (l0 : List Int) (a1 : Int) : Option (Int × List Int) := laws_markIntS.l0 k l0 a1 0
set_option maxHeartbeats 8000000 in
set_option maxRecDepth 100000 in
theorem laws_markIntS.calls (k : Nat) (P0_ : Nat → Prop) (u9000_ : Value) (l0 : List Int) (a1 : Int) (r1 : Int) (r2 : List Int) (w0 w : World) (hB : Below w0.heap.size w0 w) (ho0 : Kd.R (Kd.int .i64) 3 w w0.heap.size P0_ u9000_ l0) (h : laws_markIntS.f k l0 a1 = some (r1, r2)) :
  Calls Try.prog 37 #[u9000_, .int .i64 a1] w fun e w' => e = .returned (.int .i64 r1) ∧ Kd.R (Kd.int .i64) 3 w' w0.heap.size (fun k_ => (P0_ k_ ∨ w.heap.size ≤ k_)) u9000_ r2 ∧ Below w0.heap.size w0 w' ∧ Kept w w' (fun k_ => P0_ k_) := by
 have HO0 := Aside0.mk (show Kd.R (Kd.int .i64) 3 w w0.heap.size (fun k_ => (P0_ k_ ∨ w.heap.size ≤ k_)) u9000_ l0 from Kd.R_mono ho0 (fun k_ hk => (.inl hk)))
 have HK := Aside0.mk (Kept.refl w (fun k_ => P0_ k_))
 have HW0 := Aside0.mk hB.size
 have HB := Aside0.mk hB
 clear hB
 have H : (laws_markIntS.l0 k l0 a1 0) = some (r1, r2) := h
 clear h
 have H' := Aside0.mk H
 clear H
 go_enter Try.func37, Try.ntmps37
 go_wp2
 go_loopg [1, 5] k (fun kq v1 v5 w' => ∃ (x0_1 : List Int) (x1_1 : Int) (x5_1 : Int), v1 = .int .i64 x1_1 ∧ v5 = .int .i64 x5_1 ∧ Aside0 (laws_markIntS.l0 kq x0_1 x1_1 x5_1 = some (r1, r2)) ∧ Aside0 (kq ≤ k) ∧ Aside0 (Kd.R (Kd.int .i64) 3 w' w0.heap.size (fun k_ => (P0_ k_ ∨ w.heap.size ≤ k_)) u9000_ x0_1) ∧ Aside0 (Kept w w' (fun k_ => P0_ k_)) ∧ Aside0 (Below w0.heap.size w0 w'))
 case atStart => exact ⟨(l0), (a1), (0), (by first | rfl | (simp; done) | (simp [*]; done)), (by first | rfl | (simp; done) | (simp [*]; done)), H', ⟨Nat.le_refl _⟩, ⟨by (with_reducible repeat (first | apply Kd.R_alloc | apply Kd.R_drewN | apply Kd.R_drew)); exact HO0.out⟩, ⟨by repeat (first | (with_reducible first | exact HK.out | apply Kept.alloc | apply Kept.drewN | apply Kept.drew) | exact HK.out)⟩, ⟨by repeat (first | (with_reducible first | exact HB.out | apply below_alloc | apply pw_below_drewN | apply below_drew1) | exact HB.out)⟩⟩
 case round =>
  clear H'
  try clear p2
  obtain ⟨x0_1, x1_1, x5_1, rfl, rfl, HA, HK1, HO_0, HK, HB⟩ := hrel
  cases gk with
  | zero => exact absurd HA.out (by simp [laws_markIntS.l0])
  | succ k1 =>
   have H := HA.out
   clear HA
   simp only [laws_markIntS.l0] at H
   by_cases c3 : x5_1 < (x0_1.length : Int)
   ·
    rw [if_pos c3] at H
    have c3b0 : decide (x5_1 < (x0_1.length : Int)) = true := decide_eq_true c3
    clear c3
    by_cases c4 : 0 ≤ x5_1
    ·
     rw [if_pos c4] at H
     have c4b0 : decide (0 ≤ x5_1) = true := decide_eq_true c4
     clear c4
     obtain ⟨y137, hy137⟩ : ∃ y_ : List Int, y_ = (x0_1.set (x5_1 : Int).toNat x1_1) := ⟨_, rfl⟩
     replace H : (laws_markIntS.l0 k1 y137 (wrap64 (x1_1 + 1)) (wrap64 (x5_1 + 1))) = some (r1, r2) := by first | (rw [hy137]; with_reducible exact H) | (have H2_ := (Option.bind_some _ _).symm.trans H; rw [hy137]; with_reducible exact H2_) | (have H2_ := (Option.bind_some _ _).symm.trans H; with_reducible exact H2_) | with_reducible exact H | (rw [hy137]; exact H) | exact H
     have Ny137 := Aside0.mk hy137
     clear hy137
     have H' := Aside0.mk H
     clear H
     obtain ⟨Ao6, co6, eo6⟩ := Kd.R_slice HO_0.out
     subst eo6
     have p5 : 0 ≤ (x5_1 : Int) := of_decide_eq_true (by first | (with_reducible assumption) | assumption)
     have q5 : (x5_1 : Int) < ((x0_1.length : Int) : Int) := of_decide_eq_true (by first | (with_reducible assumption) | assumption)
     obtain ⟨go5, co5, eo5, gb5, gl5, cl5, HG5⟩ := Kd.R_form HO_0.out (by omega)
     (first | cases eo5 | (injection eo5 with ea_ en_ ec_; (first | subst ea_ | (injection ea_ with ea_; subst ea_)); subst ec_; clear en_))
     have GB5 := Aside0.mk gb5
     have GG5 := Aside0.mk HG5
     clear gb5 gl5 HG5
     have HMgo5 := Aside0.mk (show (P0_ go5 ∨ w.heap.size ≤ go5) from (HO_0.out.1 _ rfl))
     obtain ⟨hx5_0, hf5_0⟩ := Kd.R_celln 0 HO_0.out (x5_1 : Int) p5 q5
     replace p5 := eq_true p5
     replace q5 := eq_true q5
     have HP7 := Kd.R_putg HO_0.out (x5_1 : Int) x1_1
     go_wp2_with (first | ((with_reducible refine gate_store (t := 3) (p := 15) rfl ?_); refine store_event (t := 3) (p := 15) (v := ?vo_w8) (w1 := (wr.setCell ⟨go5, (x5_1 : Int).toNat, none⟩ (.int .i64 x1_1))) ?hg ?ho ?hn ?hr ?_; (case ho => rfl); (case hg => rfl); (case hn => rfl); (case hr => first | (go_simp; done) | (go_simp; rfl)); intro w8 hw; have hg : wr.grownBy w8 (some go5) := (by rw [hw]; exact HP7.2); have hp_ : Kd.R (Kd.int .i64) 3 w8 w0.heap.size (fun k_ => (P0_ k_ ∨ w.heap.size ≤ k_)) (.slice (some ⟨go5, 0, none⟩) x0_1.length co6) y137 := (by rw [hw, Ny137.out]; exact HP7.1); clear HP7; have n0_ := Aside0.mk (hp_); have n1_ := Aside0.mk ((by rw [hw]; exact below_set (HB.out) GB5.out : Below w0.heap.size w0 w8)); have n2_ := Aside0.mk (Kept.of_grown (S := (fun k_ => P0_ k_)) hg (by repeat (first | (with_reducible first | exact HK.out | apply Kept.alloc | apply Kept.drewN | apply Kept.drew) | exact HK.out)) (fun k_ e_ => (HO_0.out.1 k_ e_))); clear HO_0; clear HB; clear HK; have HO_0 := n0_; have HB := n1_; have HK := n2_; clear n0_ n1_ n2_; clear hg hw hp_))
     go_roundg k1
     case measure => have := HK1.out; omega
     case rel => exact ⟨(y137), (wrap64 (x1_1 + 1)), (wrap64 (x5_1 + 1)), (by first | rfl | (simp; done) | (simp [*]; done)), (by first | rfl | (simp; done) | (simp [*]; done)), H', ⟨by have := HK1.out; omega⟩, ⟨by (with_reducible repeat (first | apply Kd.R_alloc | apply Kd.R_drewN | apply Kd.R_drew)); exact HO_0.out⟩, ⟨by repeat (first | (with_reducible first | exact HK.out | apply Kept.alloc | apply Kept.drewN | apply Kept.drew) | exact HK.out)⟩, ⟨by repeat (first | (with_reducible first | exact HB.out | apply below_alloc | apply pw_below_drewN | apply below_drew1) | exact HB.out)⟩⟩
    ·
     rw [if_neg c4] at H
     exact absurd H (by simp)
   ·
    rw [if_neg c3] at H
    have c3b0 : decide (x5_1 < (x0_1.length : Int)) = false := decide_eq_false c3
    clear c3
    simp only [Option.some.injEq, Prod.mk.injEq] at H
    obtain ⟨rfl, rfl⟩ := H
    obtain ⟨Ao9, co9, eo9⟩ := Kd.R_slice HO_0.out
    subst eo9
    go_wp2
    go_ret
    exact ⟨by first | rfl | (simp [errW_none, errW_some] <;> rfl) | (simp [*, errW_none, errW_some] <;> rfl), by (with_reducible repeat (first | apply Kd.R_alloc | apply Kd.R_drewN | apply Kd.R_drew)); exact HO_0.out, by repeat (first | (with_reducible first | exact HB.out | apply below_alloc | apply pw_below_drewN | apply below_drew1) | exact HB.out), by repeat (first | (with_reducible first | exact HK.out | apply Kept.alloc | apply Kept.drewN | apply Kept.drew) | exact HK.out)⟩
end Go.Proofs.Ytiimiogpiflkdaa.A
end

section
set_option linter.unusedVariables false
set_option linter.unusedSimpArgs false
namespace Go.Proofs.Ytiimiogpiflkdaa.L
open Go Go.RowKit Go.Proofs.Ytiimiogpiflkdaa.A Go.Proofs.YtiimiogpiflkdaaW.PrintWords
def ups : Nat → Int → List Int
  | 0, _ => []
  | n + 1, k => k :: ups n (k + 1)
theorem ups_length : ∀ (n : Nat) (k : Int), (ups n k).length = n
  | 0, _ => rfl
  | n + 1, k => by simp [ups, ups_length n]
theorem ups_get : ∀ (n : Nat) (k : Int) (i : Nat) (h : i < n), (ups n k)[i]'(by rw [ups_length]; exact h) = k + i
  | n + 1, k, 0, _ => by simp [ups]
  | n + 1, k, i + 1, h => by
    simp only [ups, List.getElem_cons_succ]
    rw [ups_get n (k + 1) i (by omega)]
    omega
theorem markIntS_l0 (k0 : Int) (N : Nat) (h0 : 0 ≤ k0) (h1 : k0 ≤ 2305843009213693952) (hN : N ≤ 1099511627776) : ∀ (d n : Nat) (xs : List Int), n + d = N → xs.length = N → xs.take n = (ups N k0).take n → Ev (fun k => laws_markIntS.l0 k xs (k0 + n) (n : Int)) (k0 + N, ups N k0) := by
  intro d
  induction d with
  | zero =>
    intro n xs hd hx ht
    refine Ev.step (fun k => laws_markIntS.l0.eq_2 ..) ?_
    refine Ev.neg (by omega) (Ev.some_ ?_)
    rw [List.take_of_length_le (by omega), List.take_of_length_le (by rw [ups_length]; omega)] at ht
    rw [ht, show n = N by omega]
  | succ d ih =>
    intro n xs hd hx ht
    refine Ev.step (fun k => laws_markIntS.l0.eq_2 ..) ?_
    refine Ev.pos (by omega) (Ev.pos (by omega) ?_)
    have e : wrap64 (k0 + (n : Int) + 1) = k0 + ((n + 1 : Nat) : Int) := by rw [w64 (by omega) (by omega)]; omega
    simp only [w64s (show n < 4611686018427387904 by omega), e, Int.toNat_natCast]
    refine ih (n + 1) _ (by omega) (by simp [hx]) ?_
    rw [List.take_succ_eq_append_getElem (by simp; omega), List.take_succ_eq_append_getElem (by rw [ups_length]; omega), List.take_set_of_le (by omega), ht, ups_get N k0 n (by omega)]
    simp
theorem markIntS_ev (l : List Int) (k0 : Int) (h0 : 0 ≤ k0) (h1 : k0 ≤ 2305843009213693952) (hN : l.length ≤ 1099511627776) : Ev (fun k => laws_markIntS.f k l k0) (k0 + l.length, ups l.length k0) := by
  unfold laws_markIntS.f
  have := markIntS_l0 k0 l.length h0 h1 hN l.length 0 l (by omega) rfl (by simp)
  simpa using this
theorem heldIntS_l0 (k0 : Int) (N : Nat) (h0 : 0 ≤ k0) (h1 : k0 ≤ 2305843009213693952) (hN : N ≤ 1099511627776) : ∀ (d n : Nat), n + d = N → Ev (fun k => laws_heldIntS.l0 k (ups N k0) (k0 + n) (n : Int)) (k0 + N) := by
  intro d
  induction d with
  | zero =>
    intro n hd
    refine Ev.step (fun k => laws_heldIntS.l0.eq_2 ..) ?_
    refine Ev.neg (by rw [ups_length]; omega) (Ev.some_ ?_)
    rw [show n = N by omega]
  | succ d ih =>
    intro n hd
    refine Ev.step (fun k => laws_heldIntS.l0.eq_2 ..) ?_
    refine Ev.pos (by rw [ups_length]; omega) (Ev.pos (by omega) ?_)
    have e : wrap64 (k0 + (n : Int) + 1) = k0 + ((n + 1 : Nat) : Int) := by rw [w64 (by omega) (by omega)]; omega
    simp only [w64s (show n < 4611686018427387904 by omega), e, rd_at (show n < (ups N k0).length by rw [ups_length]; omega), ups_get N k0 n (show n < N by omega)]
    exact Ev.pos trivial (ih (n + 1) (by omega))
theorem heldIntS_ev (N : Nat) (k0 : Int) (h0 : 0 ≤ k0) (h1 : k0 ≤ 2305843009213693952) (hN : N ≤ 1099511627776) : Ev (fun k => laws_heldIntS.f k (ups N k0) k0) (k0 + N) := by
  unfold laws_heldIntS.f
  have := heldIntS_l0 k0 N h0 h1 hN N 0 (by omega)
  simpa using this
end Go.Proofs.Ytiimiogpiflkdaa.L
end

section
set_option linter.unusedVariables false
set_option linter.unusedSimpArgs false
namespace Go.Proofs.Ytiimiogpiflkdaa.M
open Go.RowKit Go.Proofs.Ytiimiogpiflkdaa.A Go.Proofs.YtiimiogpiflkdaaW.PrintWords Go.Proofs.YtiimiogpiflkdaaW.PrintLast Go.Proofs.YtiimiogpiflkdaaW.PrintMore
def mk1 (x : S61) (k : Int) : S61 := ⟨k, k + 1, k + 2, k + 3, k + 4, L.ups x.f5.length (k + 5)⟩
def mkTs : List S61 → Int → List S61
  | [], _ => []
  | x :: l, k => mk1 x k :: mkTs l (k + 5 + x.f5.length)
abbrev lens (l : List S61) : List Nat := l.map (fun x => x.f5.length)
theorem mkTs_length : ∀ (l : List S61) (k : Int), (mkTs l k).length = l.length
  | [], _ => rfl
  | x :: l, k => by simp [mkTs, mkTs_length l]
theorem mkTs_snoc : ∀ (a : List S61) (x : S61) (k : Int), mkTs (a ++ [x]) k = mkTs a k ++ [mk1 x (k + tot 5 (lens a))]
  | [], x, k => by simp [mkTs, tot]
  | y :: a, x, k => by
    simp only [List.cons_append, mkTs, mkTs_snoc a x, List.map_cons, tot]
    rw [show k + 5 + (y.f5.length : Int) + (tot 5 (lens a) : Int) = k + ((5 + y.f5.length + tot 5 (lens a) : Nat) : Int) by omega]
theorem mkTs_step (l : List S61) (k : Int) (n : Nat) (h : n < l.length) : (mkTs (l.take n) k ++ l.drop n).set n (mk1 l[n] (k + tot 5 (lens (l.take n)))) = mkTs (l.take (n + 1)) k ++ l.drop (n + 1) := by
  have hl : (mkTs (l.take n) k).length = n := by rw [mkTs_length, List.length_take]; omega
  have hs := L.set_snoc (mkTs (l.take n) k) (l.drop (n + 1)) l[n] (mk1 l[n] (k + tot 5 (lens (l.take n))))
  rw [hl] at hs
  rw [List.take_succ_eq_append_getElem h, mkTs_snoc, List.drop_eq_getElem_cons h]
  exact hs
theorem mkTs_at (l : List S61) (k : Int) (n : Nat) (h : n < l.length) (z : S61) : (mkTs (l.take n) k ++ l.drop n).getD n z = l[n] := by
  have hl : (mkTs (l.take n) k).length = n := by rw [mkTs_length, List.length_take]; omega
  rw [List.getD_eq_getElem?_getD, List.getElem?_append_right (by omega), hl]
  simp [h]
set_option maxHeartbeats 8000000 in
set_option maxRecDepth 100000 in
theorem markTeamX_calls (P0 : Nat → Prop) (u : Value) (l : List S61) (a1 : Int) (w0 w : World) (hB : Below w0.heap.size w0 w) (ho : Kd.S k61 61 w w0.heap.size P0 u l) (h0 : 0 ≤ a1) (h1 : a1 + tot 5 (lens l) ≤ 2305843009213693952) (hl : l.length ≤ 1099511627776) (hi5 : ∀ x ∈ l, x.f5.length ≤ 1099511627776) :
    Calls Try.prog 36 #[u, .int .i64 a1] w fun e w' => e = .returned (.int .i64 (a1 + tot 5 (lens l))) ∧ Kd.S k61 61 w' w0.heap.size P0 u (mkTs l a1) ∧ Below w0.heap.size w0 w' ∧ Kept w w' P0 := by
  obtain ⟨A, c, rfl⟩ := Kd.S_slice ho
  have HO0 := Aside0.mk ho
  have HB0 := Aside0.mk hB
  have H0 := Aside0.mk h0
  have H1 := Aside0.mk h1
  have HN := Aside0.mk hl
  have HI5 := Aside0.mk hi5
  clear ho hB h0 h1 hl hi5
  have hu61 := Try.underlying61
  go_enter Try.func36, Try.ntmps36
  go_wp2
  go_loopg [1, 5] l.length (fun gg v1 v5 wr => ∃ (kk : Nat) (x1 : Int), v1 = .int .i64 x1 ∧ v5 = .int .i64 kk ∧ Aside0 (x1 = a1 + tot 5 (lens (l.take kk))) ∧ Aside0 (kk ≤ l.length ∧ l.length - kk ≤ gg) ∧ Aside0 (Kd.S k61 61 wr w0.heap.size P0 (.slice A l.length c) (mkTs (l.take kk) a1 ++ l.drop kk)) ∧ Aside0 (Below w0.heap.size w0 wr) ∧ Aside0 (Kept w wr P0))
  case atStart => exact ⟨0, a1, rfl, rfl, ⟨by simp [tot]⟩, ⟨by omega⟩, ⟨by simpa [mkTs] using HO0.out⟩, HB0, ⟨Kept.refl w P0⟩⟩
  case round =>
    obtain ⟨kk, x1, rfl, rfl, HX, HI, HS, HB, HK⟩ := hrel
    by_cases hlt : kk < l.length
    · have hltb : ((kk : Int) < (l.length : Int)) = True := eq_true (by omega)
      have HLT := Aside0.mk hlt
      obtain ⟨g, cap, ev, hgb, hgl, hg2_⟩ := Kd.S_form HS.out (by simp; omega)
      injection ev with eA eL eC
      clear eL eC hg2_
      subst eA
      have HGB := Aside0.mk hgb
      obtain ⟨oki, cs, hcl, hM, hcc, hfr, hoki, hH⟩ := Kd.S_elem HS.out l[kk] (kk : Int) (by omega) (by omega)
      have hxk : (mkTs (l.take kk) a1 ++ l.drop kk).getD (kk : Int).toNat l[kk] = l[kk] := mkTs_at l a1 kk hlt _
      rw [hxk] at hM
      obtain ⟨x, hx⟩ : ∃ x, l[kk] = x := ⟨_, rfl⟩
      have HXK : Aside0 (l[kk]'(HLT.out) = x) := ⟨hx⟩
      rw [hx] at hM
      obtain ⟨c0, r0, rfl, hm0, c1, r1, rfl, hm1, c2, r2, rfl, hm2, c3, r3, rfl, hm3, c4, r4, rfl, hm4, v, rfl, hr⟩ := hM
      cases hm0
      cases hm1
      cases hm2
      cases hm3
      cases hm4
      obtain ⟨B, cB, rfl⟩ := Kd.R_slice hr
      have hy0 : wr.cell? ⟨g, kk * 6, none⟩ = some (.int .i64 x.f0) := hcc 0 _ rfl
      have hy1 : wr.cell? ⟨g, kk * 6 + 1, none⟩ = some (.int .i64 x.f1) := hcc 1 _ rfl
      have hy2 : wr.cell? ⟨g, kk * 6 + 2, none⟩ = some (.int .i64 x.f2) := hcc 2 _ rfl
      have hy3 : wr.cell? ⟨g, kk * 6 + 3, none⟩ = some (.int .i64 x.f3) := hcc 3 _ rfl
      have hy4 : wr.cell? ⟨g, kk * 6 + 4, none⟩ = some (.int .i64 x.f4) := hcc 4 _ rfl
      have hs0 : wr.cell? ⟨g, kk * 6 + 5, none⟩ = some (.slice B x.f5.length cB) := hcc 5 _ rfl
      have hz0 : wr.frozen? ⟨g, kk * 6, none⟩ = false := hfr 0
      have hz1 : wr.frozen? ⟨g, kk * 6 + 1, none⟩ = false := hfr 1
      have hz2 : wr.frozen? ⟨g, kk * 6 + 2, none⟩ = false := hfr 2
      have hz3 : wr.frozen? ⟨g, kk * 6 + 3, none⟩ = false := hfr 3
      have hz4 : wr.frozen? ⟨g, kk * 6 + 4, none⟩ = false := hfr 4
      have hf0 := hz0
      have hc0 := hy0
      have hc1 : ∀ v0 : Int, (World.setCell wr ⟨g, kk * 6, none⟩ (.int .i64 v0)).cell? ⟨g, kk * 6 + 1, none⟩ = some (.int .i64 x.f1) := fun v0 => (cell_set_ne (fun _ => by show kk * 6 + 1 ≠ kk * 6; omega)).trans hy1
      have hf1 : ∀ v0 : Int, (World.setCell wr ⟨g, kk * 6, none⟩ (.int .i64 v0)).frozen? ⟨g, kk * 6 + 1, none⟩ = false := fun v0 => frozen_set.trans hz1
      have hc2 : ∀ v0 v1 : Int, (World.setCell (World.setCell wr ⟨g, kk * 6, none⟩ (.int .i64 v0)) ⟨g, kk * 6 + 1, none⟩ (.int .i64 v1)).cell? ⟨g, kk * 6 + 2, none⟩ = some (.int .i64 x.f2) := fun v0 v1 => (cell_set_ne (fun _ => by show kk * 6 + 2 ≠ kk * 6 + 1; omega)).trans ((cell_set_ne (fun _ => by show kk * 6 + 2 ≠ kk * 6; omega)).trans hy2)
      have hf2 : ∀ v0 v1 : Int, (World.setCell (World.setCell wr ⟨g, kk * 6, none⟩ (.int .i64 v0)) ⟨g, kk * 6 + 1, none⟩ (.int .i64 v1)).frozen? ⟨g, kk * 6 + 2, none⟩ = false := fun v0 v1 => frozen_set.trans (frozen_set.trans hz2)
      have hc3 : ∀ v0 v1 v2 : Int, (World.setCell (World.setCell (World.setCell wr ⟨g, kk * 6, none⟩ (.int .i64 v0)) ⟨g, kk * 6 + 1, none⟩ (.int .i64 v1)) ⟨g, kk * 6 + 2, none⟩ (.int .i64 v2)).cell? ⟨g, kk * 6 + 3, none⟩ = some (.int .i64 x.f3) := fun v0 v1 v2 => (cell_set_ne (fun _ => by show kk * 6 + 3 ≠ kk * 6 + 2; omega)).trans ((cell_set_ne (fun _ => by show kk * 6 + 3 ≠ kk * 6 + 1; omega)).trans ((cell_set_ne (fun _ => by show kk * 6 + 3 ≠ kk * 6; omega)).trans hy3))
      have hf3 : ∀ v0 v1 v2 : Int, (World.setCell (World.setCell (World.setCell wr ⟨g, kk * 6, none⟩ (.int .i64 v0)) ⟨g, kk * 6 + 1, none⟩ (.int .i64 v1)) ⟨g, kk * 6 + 2, none⟩ (.int .i64 v2)).frozen? ⟨g, kk * 6 + 3, none⟩ = false := fun v0 v1 v2 => frozen_set.trans (frozen_set.trans (frozen_set.trans hz3))
      have hc4 : ∀ v0 v1 v2 v3 : Int, (World.setCell (World.setCell (World.setCell (World.setCell wr ⟨g, kk * 6, none⟩ (.int .i64 v0)) ⟨g, kk * 6 + 1, none⟩ (.int .i64 v1)) ⟨g, kk * 6 + 2, none⟩ (.int .i64 v2)) ⟨g, kk * 6 + 3, none⟩ (.int .i64 v3)).cell? ⟨g, kk * 6 + 4, none⟩ = some (.int .i64 x.f4) := fun v0 v1 v2 v3 => (cell_set_ne (fun _ => by show kk * 6 + 4 ≠ kk * 6 + 3; omega)).trans ((cell_set_ne (fun _ => by show kk * 6 + 4 ≠ kk * 6 + 2; omega)).trans ((cell_set_ne (fun _ => by show kk * 6 + 4 ≠ kk * 6 + 1; omega)).trans ((cell_set_ne (fun _ => by show kk * 6 + 4 ≠ kk * 6; omega)).trans hy4)))
      have hf4 : ∀ v0 v1 v2 v3 : Int, (World.setCell (World.setCell (World.setCell (World.setCell wr ⟨g, kk * 6, none⟩ (.int .i64 v0)) ⟨g, kk * 6 + 1, none⟩ (.int .i64 v1)) ⟨g, kk * 6 + 2, none⟩ (.int .i64 v2)) ⟨g, kk * 6 + 3, none⟩ (.int .i64 v3)).frozen? ⟨g, kk * 6 + 4, none⟩ = false := fun v0 v1 v2 v3 => frozen_set.trans (frozen_set.trans (frozen_set.trans (frozen_set.trans hz4)))
      have hs : ∀ v0 v1 v2 v3 v4 : Int, (World.setCell (World.setCell (World.setCell (World.setCell (World.setCell wr ⟨g, kk * 6, none⟩ (.int .i64 v0)) ⟨g, kk * 6 + 1, none⟩ (.int .i64 v1)) ⟨g, kk * 6 + 2, none⟩ (.int .i64 v2)) ⟨g, kk * 6 + 3, none⟩ (.int .i64 v3)) ⟨g, kk * 6 + 4, none⟩ (.int .i64 v4)).cell? ⟨g, kk * 6 + 5, none⟩ = some (.slice B x.f5.length cB) := fun v0 v1 v2 v3 v4 => (cell_set_ne (fun _ => by show kk * 6 + 5 ≠ kk * 6 + 4; omega)).trans ((cell_set_ne (fun _ => by show kk * 6 + 5 ≠ kk * 6 + 3; omega)).trans ((cell_set_ne (fun _ => by show kk * 6 + 5 ≠ kk * 6 + 2; omega)).trans ((cell_set_ne (fun _ => by show kk * 6 + 5 ≠ kk * 6 + 1; omega)).trans ((cell_set_ne (fun _ => by show kk * 6 + 5 ≠ kk * 6; omega)).trans hs0))))
      have hPg : P0 g := by
        obtain ⟨_, hR⟩ := HS.out
        exact hR.1 g rfl
      have HSEG : ∀ v0 v1 v2 v3 v4 : Int, Kd.H k61 61 (World.setCell (World.setCell (World.setCell (World.setCell (World.setCell wr ⟨g, kk * 6, none⟩ (.int .i64 v0)) ⟨g, kk * 6 + 1, none⟩ (.int .i64 v1)) ⟨g, kk * 6 + 2, none⟩ (.int .i64 v2)) ⟨g, kk * 6 + 3, none⟩ (.int .i64 v3)) ⟨g, kk * 6 + 4, none⟩ (.int .i64 v4)) w0.heap.size P0 (.slice (some ⟨g, 0, none⟩) l.length c) (mkTs (l.take kk) a1 ++ l.drop kk) (kk : Int) oki [.int .i64 v0, .int .i64 v1, .int .i64 v2, .int .i64 v3, .int .i64 v4, .slice B x.f5.length cB] ∧ wr.grownBy (World.setCell (World.setCell (World.setCell (World.setCell (World.setCell wr ⟨g, kk * 6, none⟩ (.int .i64 v0)) ⟨g, kk * 6 + 1, none⟩ (.int .i64 v1)) ⟨g, kk * 6 + 2, none⟩ (.int .i64 v2)) ⟨g, kk * 6 + 3, none⟩ (.int .i64 v3)) ⟨g, kk * 6 + 4, none⟩ (.int .i64 v4)) (some g) := fun v0 v1 v2 v3 v4 =>
        Kd.H_seg hH (by omega) (by omega) (seg := [.int .i64 v0, .int .i64 v1, .int .i64 v2, .int .i64 v3, .int .i64 v4]) (j := 0) (show 5 ≤ 6 from by decide) (by
          intro q hq
          simp only [List.mem_cons, List.not_mem_nil, or_false] at hq
          rcases hq with rfl | rfl | rfl | rfl | rfl <;> rfl)
      have HHH : Aside0 (∀ v0 v1 v2 v3 v4 : Int, Kd.H k61 61 (World.setCell (World.setCell (World.setCell (World.setCell (World.setCell wr ⟨g, kk * 6, none⟩ (.int .i64 v0)) ⟨g, kk * 6 + 1, none⟩ (.int .i64 v1)) ⟨g, kk * 6 + 2, none⟩ (.int .i64 v2)) ⟨g, kk * 6 + 3, none⟩ (.int .i64 v3)) ⟨g, kk * 6 + 4, none⟩ (.int .i64 v4)) w0.heap.size P0 (.slice (some ⟨g, 0, none⟩) l.length c) (mkTs (l.take kk) a1 ++ l.drop kk) (kk : Int) oki [.int .i64 v0, .int .i64 v1, .int .i64 v2, .int .i64 v3, .int .i64 v4, .slice B x.f5.length cB]) := ⟨fun v0 v1 v2 v3 v4 => (HSEG v0 v1 v2 v3 v4).1⟩
      have HRV : Aside0 (∀ v0 v1 v2 v3 v4 : Int, Kd.R (Kd.int .i64) 3 (World.setCell (World.setCell (World.setCell (World.setCell (World.setCell wr ⟨g, kk * 6, none⟩ (.int .i64 v0)) ⟨g, kk * 6 + 1, none⟩ (.int .i64 v1)) ⟨g, kk * 6 + 2, none⟩ (.int .i64 v2)) ⟨g, kk * 6 + 3, none⟩ (.int .i64 v3)) ⟨g, kk * 6 + 4, none⟩ (.int .i64 v4)) w0.heap.size oki (.slice B x.f5.length cB) x.f5) := ⟨fun v0 v1 v2 v3 v4 => Kd.R_step hr (fun k hk hk2 => (HSEG v0 v1 v2 v3 v4).2.block k hk2 (fun e => (hoki k hk).2 (by injection e)))⟩
      have HBW : Aside0 (∀ v0 v1 v2 v3 v4 : Int, Below w0.heap.size w0 (World.setCell (World.setCell (World.setCell (World.setCell (World.setCell wr ⟨g, kk * 6, none⟩ (.int .i64 v0)) ⟨g, kk * 6 + 1, none⟩ (.int .i64 v1)) ⟨g, kk * 6 + 2, none⟩ (.int .i64 v2)) ⟨g, kk * 6 + 3, none⟩ (.int .i64 v3)) ⟨g, kk * 6 + 4, none⟩ (.int .i64 v4))) := ⟨fun v0 v1 v2 v3 v4 => HB.out.grown (HSEG v0 v1 v2 v3 v4).2 HB.out.size (fun k hk => by injection hk with hk; omega)⟩
      have HKW : Aside0 (∀ v0 v1 v2 v3 v4 : Int, Kept w (World.setCell (World.setCell (World.setCell (World.setCell (World.setCell wr ⟨g, kk * 6, none⟩ (.int .i64 v0)) ⟨g, kk * 6 + 1, none⟩ (.int .i64 v1)) ⟨g, kk * 6 + 2, none⟩ (.int .i64 v2)) ⟨g, kk * 6 + 3, none⟩ (.int .i64 v3)) ⟨g, kk * 6 + 4, none⟩ (.int .i64 v4)) P0) := ⟨fun v0 v1 v2 v3 v4 => Kept.of_grown (HSEG v0 v1 v2 v3 v4).2 HK.out (fun k hk => by injection hk with hk; subst hk; exact .inl hPg)⟩
      have htk := tot_take 5 (lens l) kk (by simpa using hlt)
      have htl := tot_take_le 5 (lens l) (kk + 1)
      have enk : (lens l)[kk]'(by simpa using hlt) = x.f5.length := by simp [lens, hx]
      rw [enk] at htk
      have et : ∀ n, (lens l).take n = lens (l.take n) := fun n => by simp [lens, List.map_take]
      rw [et, et] at htk
      rw [et] at htl
      have HBD : Aside0 (0 ≤ x1 ∧ x1 + 5 + x.f5.length ≤ 2305843009213693952) := ⟨by have := H1.out; have := HX.out; have := H0.out; omega⟩
      have HT : Aside0 (x1 + 5 + x.f5.length = a1 + tot 5 (lens (l.take (kk + 1)))) := ⟨by have := HX.out; omega⟩
      have HKK : Aside0 (wrap64 ((kk : Int) + 1) = ((kk + 1 : Nat) : Int)) := ⟨by have := HN.out; unfold wrap64; omega⟩
      have HOK := Aside0.mk hoki
      obtain ⟨K, hK⟩ := L.markIntS_ev x.f5 (x1 + 5) (by have := HBD.out; omega) (by have := HBD.out; omega) (by have := HI5.out _ (List.getElem_mem HLT.out); rw [HXK.out] at this; exact this)
      have HF := Aside0.mk (hK K (Nat.le_refl _))
      have HV : Aside0 (wrap64 (wrap64 (wrap64 (wrap64 (wrap64 (x1 + 1) + 1) + 1) + 1) + 1) = x1 + 5) := ⟨by have := HBD.out; unfold wrap64; omega⟩
      have HV1 : Aside0 (wrap64 (x1 + 1) = x1 + 1 ∧ wrap64 (wrap64 (x1 + 1) + 1) = x1 + 2 ∧ wrap64 (wrap64 (wrap64 (x1 + 1) + 1) + 1) = x1 + 3 ∧ wrap64 (wrap64 (wrap64 (wrap64 (x1 + 1) + 1) + 1) + 1) = x1 + 4) := ⟨by have := HBD.out; unfold wrap64; omega⟩
      clear hK hoki et enk htl htk HSEG hPg hy0 hy1 hy2 hy3 hy4 hs0 hz0 hz1 hz2 hz3 hz4 hr hcc hfr hcl hH hxk hx hgl hgb hlt
      go_wp2_with (go_at_call 37; rw [HV.out]; refine (laws_markIntS.calls (k := K) (P0_ := oki) (u9000_ := .slice B x.f5.length cB) (l0 := x.f5) (a1 := x1 + 5) (r1 := x1 + 5 + x.f5.length) (r2 := L.ups x.f5.length (x1 + 5)) (w0 := w0) (h := HF.out) (hB := HBW.out _ _ _ _ _) (ho0 := HRV.out _ _ _ _ _)).mono ?_; rintro e w9 ⟨rfl, hr9, hb9, hk9⟩; have HR9 := Aside0.mk hr9; have HB9 := Aside0.mk hb9; have HH9 := Aside0.mk (Kd.H_kept (HHH.out _ _ _ _ _) hk9 (fun k _ hn hs => hn hs)); have HK9 := Aside0.mk ((HKW.out _ _ _ _ _).then_ hk9 (fun k hk => .inl (HH9.out.1 k hk))); clear hr9 hb9 hk9)
      go_roundg (l.length - (kk + 1))
      case measure => have := HI.out; have := HLT.out; omega
      case rel =>
        refine ⟨kk + 1, _, rfl, by rw [HKK.out], HT, ⟨by have := HLT.out; omega⟩, ⟨?_⟩, HB9, HK9⟩
        rw [← mkTs_step l a1 kk HLT.out]
        have h9 := HH9.out
        have e1 := HV1.out
        rw [e1.2.2.2, e1.2.2.1, e1.2.1, e1.1] at h9
        have hb := Kd.H_back h9 (x' := mk1 (l[kk]'(HLT.out)) (a1 + tot 5 (lens (l.take kk)))) (okp := oki) ?_ (fun _ h => h)
        · exact hb
        · rw [HXK.out, ← HX.out]
          exact ⟨[_], _, rfl, rfl, [_], _, rfl, rfl, [_], _, rfl, rfl, [_], _, rfl, rfl, [_], _, rfl, rfl, _, rfl, Kd.R_mono (Kd.R_tight rfl HR9.out) (fun k hk => (HRV.out 0 0 0 0 0).1 k hk.symm)⟩
    · have hltb : ((kk : Int) < (l.length : Int)) = False := eq_false (by omega)
      have HLT := Aside0.mk hlt
      clear hlt
      go_wp2
      go_ret
      have ek : l.take kk = l := List.take_of_length_le (by have := HI.out; have := HLT.out; omega)
      have ed : l.drop kk = [] := List.drop_eq_nil_of_le (by have := HI.out; have := HLT.out; omega)
      refine ⟨?_, ?_, HB.out, HK.out⟩
      · have h1 := HX.out
        rw [ek] at h1
        rw [← h1]
        rfl
      · have h2 := HS.out
        rw [ek, ed, List.append_nil] at h2
        exact h2
end Go.Proofs.Ytiimiogpiflkdaa.M
end

section
set_option linter.unusedVariables false
set_option linter.unusedSimpArgs false
namespace Go.Proofs.Ytiimiogpiflkdaa.A
open Go.RowKit Go.Proofs.YtiimiogpiflkdaaW.PrintWords Go.Proofs.YtiimiogpiflkdaaW.PrintLast Go.Proofs.YtiimiogpiflkdaaW.PrintMore
def laws_markTeamS.f (l0 : List S61) (a1 : Int) : Option (Int × List S61) := if 0 ≤ a1 ∧ a1 + M.tot 5 (M.lens l0) ≤ 2305843009213693952 ∧ l0.length ≤ 1099511627776 ∧ ∀ x ∈ l0, x.f5.length ≤ 1099511627776 then some (a1 + M.tot 5 (M.lens l0), M.mkTs l0 a1) else none
theorem laws_markTeamS.calls (P0_ : Nat → Prop) (u9000_ : Value) (l0 : List S61) (a1 : Int) (r1 : Int) (r2 : List S61) (w0 : World) (w : World) (hB : Below w0.heap.size w0 w) (ho0 : Kd.S k61 61 w w0.heap.size P0_ u9000_ l0) (h : laws_markTeamS.f l0 a1 = some (r1, r2)) :
  Calls Try.prog 36 #[u9000_, .int .i64 a1] w fun e w' => e = .returned (.int .i64 r1) ∧ Kd.S k61 61 w' w0.heap.size P0_ u9000_ r2 ∧ Below w0.heap.size w0 w' ∧ Kept w w' P0_ := by
  unfold laws_markTeamS.f at h
  split at h
  · rename_i hc
    injection h with h
    injection h with h1 h2
    subst h1 h2
    exact M.markTeamX_calls P0_ u9000_ l0 a1 w0 w hB ho0 hc.1 hc.2.1 hc.2.2.1 hc.2.2.2
  · cases h
theorem own_intervalS {α : Type} {d : Kd α} {e : Nat} {w w' : World} {v : Value} {xs : List α} (h : Kd.S d e w' w.heap.size (fun _ => True) v xs) : Kd.S d e w' w.heap.size (fun k => w.heap.size ≤ k ∧ k < w'.heap.size) v xs :=
  Kd.S_mono (Kd.S_bound h) (fun k hk => ⟨hk.2.1, hk.2.2.1⟩)
end Go.Proofs.Ytiimiogpiflkdaa.A
end

section
set_option linter.unusedVariables false
set_option linter.unusedSimpArgs false
namespace Go.Proofs.Ytiimiogpiflkdaa.M
open Go.RowKit Go.Proofs.Ytiimiogpiflkdaa.A Go.Proofs.YtiimiogpiflkdaaW.PrintWords Go.Proofs.YtiimiogpiflkdaaW.PrintLast Go.Proofs.YtiimiogpiflkdaaW.PrintMore
set_option maxHeartbeats 8000000 in
set_option maxRecDepth 100000 in
theorem markTeamS_calls (P : Nat → Prop) (A : Option Addr) (ns : List Nat) (c : Nat) (a1 : Int) (w : World) (h : RowS 5 P w A ns) (h0 : 0 ≤ a1) (h1 : a1 + tot 5 ns ≤ 4611686018427387904) :
    Calls Try.prog 36 #[.slice A ns.length c, .int .i64 a1] w fun e w' => e = .returned (.int .i64 (a1 + tot 5 ns)) ∧ MI P w w' := by
  have HR := Aside0.mk h
  have H0 := Aside0.mk h0
  have H1 := Aside0.mk h1
  have HN := Aside0.mk h.1
  clear h h0 h1
  have hu61 := Try.underlying61
  go_enter Try.func36, Try.ntmps36
  go_wp2
  go_loopg [1, 5] ns.length (fun gg v1 v5 wr => ∃ (kk : Nat) (x1 : Int), v1 = .int .i64 x1 ∧ v5 = .int .i64 kk ∧ Aside0 (x1 = a1 + tot 5 (ns.take kk)) ∧ Aside0 (kk ≤ ns.length ∧ ns.length - kk ≤ gg) ∧ Aside0 (MI P w wr))
  case atStart => exact ⟨0, a1, rfl, rfl, ⟨by simp [tot]⟩, ⟨by omega⟩, ⟨MI.refl P w⟩⟩
  case round =>
    obtain ⟨kk, x1, rfl, rfl, HX, HI, HM⟩ := hrel
    by_cases hlt : kk < ns.length
    · have hltb : ((kk : Int) < (ns.length : Int)) = True := eq_true (by omega)
      obtain ⟨g, rfl, hP, hgl, hc⟩ := (HR.out.mi HM.out).2 (by omega)
      have HP := Aside0.mk hP
      have HLT := Aside0.mk hlt
      have htk := tot_take 5 ns kk hlt
      have htl := tot_take_le 5 ns (kk + 1)
      obtain ⟨nk, hnk⟩ : ∃ nk, ns[kk] = nk := ⟨_, rfl⟩
      rw [hnk] at htk
      have HB : Aside0 (0 ≤ x1 ∧ x1 + 5 + nk ≤ 4611686018427387904) := ⟨by have := H1.out; have := HX.out; have := H0.out; omega⟩
      have HT : Aside0 (x1 + 5 + nk = a1 + tot 5 (ns.take (kk + 1))) := ⟨by have := HX.out; omega⟩
      have HKK : Aside0 (wrap64 ((kk : Int) + 1) = ((kk + 1 : Nat) : Int)) := ⟨by have := HN.out; unfold wrap64; omega⟩
      obtain ⟨hi_, B, cB, hs0, hrB⟩ := hc kk hlt
      rw [hnk] at hs0 hrB
      obtain ⟨⟨y0, hy0⟩, hz0⟩ := hi_ 0 (by omega)
      obtain ⟨⟨y1, hy1⟩, hz1⟩ := hi_ 1 (by omega)
      obtain ⟨⟨y2, hy2⟩, hz2⟩ := hi_ 2 (by omega)
      obtain ⟨⟨y3, hy3⟩, hz3⟩ := hi_ 3 (by omega)
      obtain ⟨⟨y4, hy4⟩, hz4⟩ := hi_ 4 (by omega)
      have hc0 : wr.cell? ⟨g, kk * 6, none⟩ = some (.int .i64 y0) := hy0
      have hf0 : wr.frozen? ⟨g, kk * 6, none⟩ = false := hz0
      have hc1 : ∀ v0 : Int, (World.setCell wr ⟨g, kk * 6, none⟩ (.int .i64 v0)).cell? ⟨g, kk * 6 + 1, none⟩ = some (.int .i64 y1) := fun v0 => (cell_set_ne (fun _ => by show kk * 6 + 1 ≠ kk * 6; omega)).trans hy1
      have hf1 : ∀ v0 : Int, (World.setCell wr ⟨g, kk * 6, none⟩ (.int .i64 v0)).frozen? ⟨g, kk * 6 + 1, none⟩ = false := fun v0 => frozen_set.trans hz1
      have hc2 : ∀ v0 v1 : Int, (World.setCell (World.setCell wr ⟨g, kk * 6, none⟩ (.int .i64 v0)) ⟨g, kk * 6 + 1, none⟩ (.int .i64 v1)).cell? ⟨g, kk * 6 + 2, none⟩ = some (.int .i64 y2) := fun v0 v1 => (cell_set_ne (fun _ => by show kk * 6 + 2 ≠ kk * 6 + 1; omega)).trans ((cell_set_ne (fun _ => by show kk * 6 + 2 ≠ kk * 6; omega)).trans hy2)
      have hf2 : ∀ v0 v1 : Int, (World.setCell (World.setCell wr ⟨g, kk * 6, none⟩ (.int .i64 v0)) ⟨g, kk * 6 + 1, none⟩ (.int .i64 v1)).frozen? ⟨g, kk * 6 + 2, none⟩ = false := fun v0 v1 => frozen_set.trans (frozen_set.trans hz2)
      have hc3 : ∀ v0 v1 v2 : Int, (World.setCell (World.setCell (World.setCell wr ⟨g, kk * 6, none⟩ (.int .i64 v0)) ⟨g, kk * 6 + 1, none⟩ (.int .i64 v1)) ⟨g, kk * 6 + 2, none⟩ (.int .i64 v2)).cell? ⟨g, kk * 6 + 3, none⟩ = some (.int .i64 y3) := fun v0 v1 v2 => (cell_set_ne (fun _ => by show kk * 6 + 3 ≠ kk * 6 + 2; omega)).trans ((cell_set_ne (fun _ => by show kk * 6 + 3 ≠ kk * 6 + 1; omega)).trans ((cell_set_ne (fun _ => by show kk * 6 + 3 ≠ kk * 6; omega)).trans hy3))
      have hf3 : ∀ v0 v1 v2 : Int, (World.setCell (World.setCell (World.setCell wr ⟨g, kk * 6, none⟩ (.int .i64 v0)) ⟨g, kk * 6 + 1, none⟩ (.int .i64 v1)) ⟨g, kk * 6 + 2, none⟩ (.int .i64 v2)).frozen? ⟨g, kk * 6 + 3, none⟩ = false := fun v0 v1 v2 => frozen_set.trans (frozen_set.trans (frozen_set.trans hz3))
      have hc4 : ∀ v0 v1 v2 v3 : Int, (World.setCell (World.setCell (World.setCell (World.setCell wr ⟨g, kk * 6, none⟩ (.int .i64 v0)) ⟨g, kk * 6 + 1, none⟩ (.int .i64 v1)) ⟨g, kk * 6 + 2, none⟩ (.int .i64 v2)) ⟨g, kk * 6 + 3, none⟩ (.int .i64 v3)).cell? ⟨g, kk * 6 + 4, none⟩ = some (.int .i64 y4) := fun v0 v1 v2 v3 => (cell_set_ne (fun _ => by show kk * 6 + 4 ≠ kk * 6 + 3; omega)).trans ((cell_set_ne (fun _ => by show kk * 6 + 4 ≠ kk * 6 + 2; omega)).trans ((cell_set_ne (fun _ => by show kk * 6 + 4 ≠ kk * 6 + 1; omega)).trans ((cell_set_ne (fun _ => by show kk * 6 + 4 ≠ kk * 6; omega)).trans hy4)))
      have hf4 : ∀ v0 v1 v2 v3 : Int, (World.setCell (World.setCell (World.setCell (World.setCell wr ⟨g, kk * 6, none⟩ (.int .i64 v0)) ⟨g, kk * 6 + 1, none⟩ (.int .i64 v1)) ⟨g, kk * 6 + 2, none⟩ (.int .i64 v2)) ⟨g, kk * 6 + 3, none⟩ (.int .i64 v3)).frozen? ⟨g, kk * 6 + 4, none⟩ = false := fun v0 v1 v2 v3 => frozen_set.trans (frozen_set.trans (frozen_set.trans (frozen_set.trans hz4)))
      have hs : ∀ v0 v1 v2 v3 v4 : Int, (World.setCell (World.setCell (World.setCell (World.setCell (World.setCell wr ⟨g, kk * 6, none⟩ (.int .i64 v0)) ⟨g, kk * 6 + 1, none⟩ (.int .i64 v1)) ⟨g, kk * 6 + 2, none⟩ (.int .i64 v2)) ⟨g, kk * 6 + 3, none⟩ (.int .i64 v3)) ⟨g, kk * 6 + 4, none⟩ (.int .i64 v4)).cell? ⟨g, kk * 6 + 5, none⟩ = some (.slice B nk cB) := fun v0 v1 v2 v3 v4 => (cell_set_ne (fun _ => by show kk * 6 + 5 ≠ kk * 6 + 4; omega)).trans ((cell_set_ne (fun _ => by show kk * 6 + 5 ≠ kk * 6 + 3; omega)).trans ((cell_set_ne (fun _ => by show kk * 6 + 5 ≠ kk * 6 + 2; omega)).trans ((cell_set_ne (fun _ => by show kk * 6 + 5 ≠ kk * 6 + 1; omega)).trans ((cell_set_ne (fun _ => by show kk * 6 + 5 ≠ kk * 6; omega)).trans hs0))))
      have HMM : Aside0 (∀ v0 v1 v2 v3 v4 : Int, MI P w (World.setCell (World.setCell (World.setCell (World.setCell (World.setCell wr ⟨g, kk * 6, none⟩ (.int .i64 v0)) ⟨g, kk * 6 + 1, none⟩ (.int .i64 v1)) ⟨g, kk * 6 + 2, none⟩ (.int .i64 v2)) ⟨g, kk * 6 + 3, none⟩ (.int .i64 v3)) ⟨g, kk * 6 + 4, none⟩ (.int .i64 v4))) := ⟨fun v0 v1 v2 v3 v4 => (((((HM.out.set HP.out (hc0 ) v0).set HP.out (hc1 v0) v1).set HP.out (hc2 v0 v1) v2).set HP.out (hc3 v0 v1 v2) v3).set HP.out (hc4 v0 v1 v2 v3) v4)⟩
      have HRB : Aside0 (∀ v0 v1 v2 v3 v4 : Int, RowI P (World.setCell (World.setCell (World.setCell (World.setCell (World.setCell wr ⟨g, kk * 6, none⟩ (.int .i64 v0)) ⟨g, kk * 6 + 1, none⟩ (.int .i64 v1)) ⟨g, kk * 6 + 2, none⟩ (.int .i64 v2)) ⟨g, kk * 6 + 3, none⟩ (.int .i64 v3)) ⟨g, kk * 6 + 4, none⟩ (.int .i64 v4)) B nk) := ⟨fun v0 v1 v2 v3 v4 => hrB.mi ((((((MI.refl P wr).set HP.out (hc0 ) v0).set HP.out (hc1 v0) v1).set HP.out (hc2 v0 v1) v2).set HP.out (hc3 v0 v1 v2) v3).set HP.out (hc4 v0 v1 v2 v3) v4)⟩
      clear hi_ hrB hc hP htk htl hlt hgl hs0 hnk hy0 hz0 hy1 hz1 hy2 hz2 hy3 hz3 hy4 hz4
      have HV : Aside0 (wrap64 (wrap64 (wrap64 (wrap64 (wrap64 (x1 + 1) + 1) + 1) + 1) + 1) = x1 + 5) := ⟨by have := HB.out; unfold wrap64; omega⟩
      go_wp2_with (go_at_call 37; refine (markI_calls P B nk cB _ _ ?q1 ?q2 ?q3).mono ?_; (case q1 => exact HRB.out _ _ _ _ _); (case q2 => rw [HV.out]; have := HB.out; omega); (case q3 => rw [HV.out]; have := HB.out; omega); rintro e w9 ⟨rfl, hm9⟩; have HM9 := Aside0.mk ((HMM.out _ _ _ _ _).trans hm9); clear hm9)
      go_roundg (ns.length - (kk + 1))
      case measure => have := HI.out; have := HLT.out; omega
      case rel => exact ⟨kk + 1, _, rfl, by rw [HKK.out], ⟨by rw [← HT.out, HV.out]⟩, ⟨by have := HLT.out; omega⟩, HM9⟩
    · have hltb : ((kk : Int) < (ns.length : Int)) = False := eq_false (by omega)
      have HLT := Aside0.mk hlt
      clear hlt
      go_wp2
      go_ret
      refine ⟨?_, HM.out⟩
      have e : x1 = a1 + (tot 5 ns : Int) := by
        have h1 := HX.out
        rw [List.take_of_length_le (by have := HI.out; have := HLT.out; omega)] at h1
        exact h1
      rw [← e]
      rfl
theorem markTeams (P : Nat → Prop) (A : Option Addr) (c : Nat) (l : List S61) (a1 : Int) (w : World) {e base : Nat} (h : Kd.R Go.Proofs.Ytiimiogpiflkdaa.A.k61 e w base P (.slice A l.length c) l) (hl : l.length ≤ 4611686018427387904) (hi : ∀ x ∈ l, x.f5.length ≤ 4611686018427387904) (h0 : 0 ≤ a1) (h1 : a1 + tot 5 (l.map (fun x => x.f5.length)) ≤ 4611686018427387904) :
    Calls Try.prog 36 #[.slice A l.length c, .int .i64 a1] w fun e w' => e = .returned (.int .i64 (a1 + tot 5 (l.map (fun x => x.f5.length)))) ∧ MI P w w' := by
  have hm : ∀ {ok : Nat → Prop} {x : S61} {cs : List Value}, (Go.Proofs.Ytiimiogpiflkdaa.A.k61).M w base ok x cs → ∃ (zs : List Int) (v : Value) (xs : List Int), cs = zs.map (Value.int .i64) ++ [v] ∧ zs.length = 5 ∧ xs.length = x.f5.length ∧ Kd.R (Kd.int .i64) 3 w base ok v xs := by
    intro ok x cs h
    obtain ⟨c0, r0, rfl, h0, c1, r1, rfl, h1, c2, r2, rfl, h2, c3, r3, rfl, h3, c4, r4, rfl, h4, v, rfl, hr⟩ := h
    cases h0
    cases h1
    cases h2
    cases h3
    cases h4
    exact ⟨[x.f0, x.f1, x.f2, x.f3, x.f4], v, x.f5, rfl, rfl, rfl, hr⟩
  have := markTeamS_calls P A (l.map (fun x => x.f5.length)) c a1 w (RowS.of_R 5 rfl (fun x => x.f5.length) hm h hl hi) h0 h1
  rw [List.length_map] at this
  exact this
end Go.Proofs.Ytiimiogpiflkdaa.M
end

section
set_option linter.unusedVariables false
set_option linter.unusedSimpArgs false
namespace Go.Proofs.Ytiimiogpiflkdaa.A
open Go.RowKit Go.Proofs.YtiimiogpiflkdaaW.PrintWords Go.Proofs.YtiimiogpiflkdaaW.PrintLast Go.Proofs.YtiimiogpiflkdaaW.PrintMore
def laws_FnExactAddResult.f (k : Nat) (l0 : List S64) (a1 : Int) (a2 : Int) (a3 : Int) (a4 : Int) (a5 : Int) : Option Bool := (laws_szTeamS.f k l0 1048576).bind (fun n1 => if n1 < 0 then some true else ((laws_toTeamS.f k l0).bind (fun x2 => (spec_AddResult.f k x2 a1 a2 a3 a4 a5).bind (fun t_ => (fun x3  b3 => (laws_toTeamS.f k l0).bind (fun x4 => (impl_AddResult.f k x4 a1 a2 a3 a4 a5).bind (fun t_ => (fun x5  b5 => (laws_eqTeamS.f k x5 x3).bind (fun b6 => if b6 = true then (if b5 = b3 then ((laws_toTeamS.f k l0).bind (fun x7 => (laws_eqTeamS.f k x4 x7).bind (fun b8 => if b8 = true then (if (x4.length ≤ 4611686018427387904 ∧ ∀ x ∈ x4, x.f5.length ≤ 4611686018427387904) ∧ (M.tot 5 (x4.map (fun x => x.f5.length)) : Int) ≤ 1152921504606846976 then ((laws_eqTeamS.f k x5 x3).bind (fun b10 => if b10 = true then (if b5 = b3 then ((laws_markTeamS.f x5 1).bind (fun t_ => (fun m11  y11 => (laws_heldTeamS.f k y11 1).bind (fun n12 => if ¬ (n12 < 0) then (if n12 = m11 then ((laws_toTeamS.f k l0).bind (fun x13 => (impl_AddResult.f k x13 a1 a2 a3 a4 a5).bind (fun t_ => (fun x14  b14 => (laws_eqTeamS.f k x14 x3).bind (fun b15 => if b15 = true then (if b14 = b3 then ((laws_heldTeamS.f k y11 1).bind (fun n16 => if ¬ (n16 < 0) then (if n16 = m11 then (some true) else none) else none)) else none) else none)) t_.1 t_.2))) else none) else none)) t_.1 t_.2)) else none) else none)) else none) else none))) else none) else none)) t_.1 t_.2))) t_.1 t_.2))))
set_option maxHeartbeats 16000000 in
set_option maxRecDepth 100000 in
theorem laws_FnExactAddResult.calls (k : Nat) (A0 : Option Addr) (c0 : Nat) (l0 : List S64) (a1 : Int) (a2 : Int) (a3 : Int) (a4 : Int) (a5 : Int) (r : Bool) (w : World) (hr0 : Kd.C k64 w A0 l0.length l0) (hc0 : l0.length ≤ c0) (h : laws_FnExactAddResult.f k l0 a1 a2 a3 a4 a5 = some r) :
  Calls Try.prog 11 #[.slice A0 l0.length c0, .int .i64 a1, .int .i64 a2, .int .i64 a3, .int .i64 a4, .int .i64 a5] w fun e w' => e = .returned (.bool r) ∧ Below w.heap.size w w' := by
  have HR0 := Aside0.mk hr0
  have HC0 := Aside0.mk hc0
  clear hr0 hc0
  unfold laws_FnExactAddResult.f at h
  have HB := Aside0.mk (Below.refl w.heap.size w)
  have TK0 : Aside0 True := ⟨trivial⟩
  replace h := Option.bind_eq_some_iff.mp h
  obtain ⟨n1, hx10, h⟩ := h
  have hx1 := Aside0.mk hx10
  clear hx10
  by_cases ce : n1 < 0
  · rw [if_pos ce] at h
    obtain rfl := Option.some.inj h
    have cx0 : (n1 < 0) = True := eq_true (by omega)
    clear ce h
    go_enter Try.func11, Try.ntmps11
    go_wp2_with (first | (have tok_ := TK0; clear TK0 tok_; go_at_call 15; refine (laws_szTeamS.calls (k := k) (A0 := A0) (c0 := c0) (l0 := l0) (a1 := 1048576) (r := n1) (h := hx1.out) (hr0 := ?hr0) (hc0 := ?hc0)).mono ?_; (case hr0 => exact Kd.C_below HR0.out (by repeat (first | (with_reducible first | exact HB.out | apply below_alloc | apply pw_below_drewN | apply below_drew1) | exact HB.out))); (case hc0 => exact HC0.out); rintro e w1 ⟨rfl, hb⟩; have HSZ1 : Aside0 (w.heap.size ≤ w1.heap.size) := ⟨hb.size⟩; have nB_ := Aside0.mk (below_step (by repeat (first | (with_reducible first | exact HB.out | apply below_alloc | apply pw_below_drewN | apply below_drew1) | exact HB.out)) hb); clear HB; have HB := nB_; clear nB_; clear hb; have TK1 : Aside0 True := ⟨trivial⟩))
    go_ret
    exact ⟨rfl, (by repeat (first | (with_reducible first | exact HB.out | apply below_alloc | apply pw_below_drewN | apply below_drew1) | exact HB.out))⟩
  rw [if_neg ce] at h
  have cf1 : (n1 < 0) = False := eq_false (by omega)
  clear ce
  replace h := Option.bind_eq_some_iff.mp h
  obtain ⟨x2, hx20, h⟩ := h
  have hx2 := Aside0.mk hx20
  clear hx20
  replace h := Option.bind_eq_some_iff.mp h
  obtain ⟨⟨x3, b3⟩, hx30, h⟩ := h
  have hx3 := Aside0.mk hx30
  clear hx30
  dsimp only at h
  replace h := Option.bind_eq_some_iff.mp h
  obtain ⟨x4, hx40, h⟩ := h
  have hx4 := Aside0.mk hx40
  clear hx40
  replace h := Option.bind_eq_some_iff.mp h
  obtain ⟨⟨x5, b5⟩, hx50, h⟩ := h
  have hx5 := Aside0.mk hx50
  clear hx50
  dsimp only at h
  replace h := Option.bind_eq_some_iff.mp h
  obtain ⟨b6, hx60, h⟩ := h
  have hx6 := Aside0.mk hx60
  clear hx60
  by_cases ct : b6 = true
  rotate_left
  · rw [if_neg ct] at h; cases h
  rw [if_pos ct] at h
  subst ct
  by_cases ct : b5 = b3
  rotate_left
  · rw [if_neg ct] at h; cases h
  rw [if_pos ct] at h
  have ct2 : b3 = b5 := ct.symm
  clear ct
  subst ct2
  replace h := Option.bind_eq_some_iff.mp h
  obtain ⟨x7, hx70, h⟩ := h
  have hx7 := Aside0.mk hx70
  clear hx70
  replace h := Option.bind_eq_some_iff.mp h
  obtain ⟨b8, hx80, h⟩ := h
  have hx8 := Aside0.mk hx80
  clear hx80
  by_cases ct : b8 = true
  rotate_left
  · rw [if_neg ct] at h; cases h
  rw [if_pos ct] at h
  subst ct
  by_cases ct : (x4.length ≤ 4611686018427387904 ∧ ∀ x ∈ x4, x.f5.length ≤ 4611686018427387904) ∧ (M.tot 5 (x4.map (fun x => x.f5.length)) : Int) ≤ 1152921504606846976
  rotate_left
  · rw [if_neg ct] at h; cases h
  rw [if_pos ct] at h
  obtain ⟨K9, hkK9⟩ : ∃ K_ : Int, K_ = 1 + (M.tot 5 (x4.map (fun x => x.f5.length)) : Int) := ⟨_, rfl⟩
  have HKK9 := Aside0.mk hkK9
  have HTK9 := Aside0.mk ct
  have HQK9 : Aside0 (0 ≤ K9 ∧ K9 ≤ 1152921504606846976 * 1 + 1) := ⟨by have := HTK9.out.2; omega⟩
  clear ct hkK9
  have cqK9 : (K9 < 0) = False := eq_false (by have := HQK9.out; omega)
  replace h := Option.bind_eq_some_iff.mp h
  obtain ⟨b10, hx100, h⟩ := h
  have hx10 := Aside0.mk hx100
  clear hx100
  by_cases ct : b10 = true
  rotate_left
  · rw [if_neg ct] at h; cases h
  rw [if_pos ct] at h
  subst ct
  by_cases ct : b3 = b3
  rotate_left
  · rw [if_neg ct] at h; cases h
  rw [if_pos ct] at h
  clear ct
  replace h := Option.bind_eq_some_iff.mp h
  obtain ⟨⟨m11, y11⟩, hx110, h⟩ := h
  have hx11 := Aside0.mk hx110
  clear hx110
  dsimp only at h
  replace h := Option.bind_eq_some_iff.mp h
  obtain ⟨n12, hx120, h⟩ := h
  have hx12 := Aside0.mk hx120
  clear hx120
  by_cases ct : ¬ (n12 < 0)
  rotate_left
  · rw [if_neg ct] at h; cases h
  rw [if_pos ct] at h
  have cf2 : (n12 < 0) = False := eq_false ct
  clear ct
  by_cases ct : n12 = m11
  rotate_left
  · rw [if_neg ct] at h; cases h
  rw [if_pos ct] at h
  have ct2 : m11 = n12 := ct.symm
  clear ct
  subst ct2
  replace h := Option.bind_eq_some_iff.mp h
  obtain ⟨x13, hx130, h⟩ := h
  have hx13 := Aside0.mk hx130
  clear hx130
  replace h := Option.bind_eq_some_iff.mp h
  obtain ⟨⟨x14, b14⟩, hx140, h⟩ := h
  have hx14 := Aside0.mk hx140
  clear hx140
  dsimp only at h
  replace h := Option.bind_eq_some_iff.mp h
  obtain ⟨b15, hx150, h⟩ := h
  have hx15 := Aside0.mk hx150
  clear hx150
  by_cases ct : b15 = true
  rotate_left
  · rw [if_neg ct] at h; cases h
  rw [if_pos ct] at h
  subst ct
  by_cases ct : b14 = b3
  rotate_left
  · rw [if_neg ct] at h; cases h
  rw [if_pos ct] at h
  have ct2 : b3 = b14 := ct.symm
  clear ct
  subst ct2
  replace h := Option.bind_eq_some_iff.mp h
  obtain ⟨n16, hx160, h⟩ := h
  have hx16 := Aside0.mk hx160
  clear hx160
  by_cases ct : ¬ (n16 < 0)
  rotate_left
  · rw [if_neg ct] at h; cases h
  rw [if_pos ct] at h
  have cf3 : (n16 < 0) = False := eq_false ct
  clear ct
  by_cases ct : n16 = m11
  rotate_left
  · rw [if_neg ct] at h; cases h
  rw [if_pos ct] at h
  have ct2 : m11 = n16 := ct.symm
  clear ct
  subst ct2
  obtain rfl := Option.some.inj h
  clear h
  go_enter Try.func11, Try.ntmps11
  go_wp2_with (first | (have tok_ := TK0; clear TK0 tok_; go_at_call 15; refine (laws_szTeamS.calls (k := k) (A0 := A0) (c0 := c0) (l0 := l0) (a1 := 1048576) (r := n1) (h := hx1.out) (hr0 := ?hr0) (hc0 := ?hc0)).mono ?_; (case hr0 => exact Kd.C_below HR0.out (by repeat (first | (with_reducible first | exact HB.out | apply below_alloc | apply pw_below_drewN | apply below_drew1) | exact HB.out))); (case hc0 => exact HC0.out); rintro e w1 ⟨rfl, hb⟩; have HSZ1 : Aside0 (w.heap.size ≤ w1.heap.size) := ⟨hb.size⟩; have nB_ := Aside0.mk (below_step (by repeat (first | (with_reducible first | exact HB.out | apply below_alloc | apply pw_below_drewN | apply below_drew1) | exact HB.out)) hb); clear HB; have HB := nB_; clear nB_; clear hb; have TK1 : Aside0 True := ⟨trivial⟩) | (have tok_ := TK1; clear TK1 tok_; go_at_call 17; refine (laws_toTeamS.calls (k := k) (A0 := A0) (c0 := c0) (l0 := l0) (r := x2) (h := hx2.out) (hr0 := ?hr0) (hc0 := ?hc0)).mono ?_; (case hr0 => exact Kd.C_below HR0.out (by repeat (first | (with_reducible first | exact HB.out | apply below_alloc | apply pw_below_drewN | apply below_drew1) | exact HB.out))); (case hc0 => exact HC0.out); rintro e w2 ⟨v_, rfl, ho_, hb⟩; have hOI_ : Kd.R k61 61 w2 w1.heap.size (fun k => w1.heap.size ≤ k ∧ k < w2.heap.size) _ _ := M.own_interval (Kd.S_R ho_); have HO2 := Aside0.mk (Kd.R_lower hOI_ (below_size (by repeat (first | (with_reducible first | exact HB.out | apply below_alloc | apply pw_below_drewN | apply below_drew1) | exact HB.out)))); have HSZ2 : Aside0 (w1.heap.size ≤ w2.heap.size) := ⟨hb.size⟩; have nB_ := Aside0.mk (below_step (by repeat (first | (with_reducible first | exact HB.out | apply below_alloc | apply pw_below_drewN | apply below_drew1) | exact HB.out)) hb); clear HB; have HB := nB_; clear nB_; clear hOI_ ho_ hb; obtain ⟨B2, d2, ev_⟩ := Kd.R_slice HO2.out; subst ev_; have TK2 : Aside0 True := ⟨trivial⟩) | (have tok_ := TK2; clear TK2 tok_; go_at_call 42; refine (spec_AddResult.calls (k := k) (A0 := B2) (c0 := d2) (l0 := x2) (a1 := a1) (a2 := a2) (a3 := a3) (a4 := a4) (a5 := a5) (r1 := x3) (r2 := b3) (h := hx3.out) (hr0 := ?hr0) (hc0 := ?hc0)).mono ?_; (case hr0 => (with_reducible repeat (first | apply Kd.C_alloc | apply Kd.C_drewN | apply Kd.C_drew)); exact (Kd.R_reads' HO2.out).2.2); (case hc0 => exact (Kd.R_reads' HO2.out).2.1); rintro e w3 ⟨v_, rfl, ho_, hb⟩; have hOI_ : Kd.R k61 61 w3 w2.heap.size (fun k => w2.heap.size ≤ k ∧ k < w3.heap.size) _ _ := M.own_interval (Kd.S_R ho_); have HO3 := Aside0.mk (Kd.R_lower hOI_ (below_size (by repeat (first | (with_reducible first | exact HB.out | apply below_alloc | apply pw_below_drewN | apply below_drew1) | exact HB.out)))); have HSZ3 : Aside0 (w2.heap.size ≤ w3.heap.size) := ⟨hb.size⟩; have n_ := Aside0.mk (Kd.R_below (by (with_reducible repeat (first | apply Kd.R_alloc | apply Kd.R_drewN | apply Kd.R_drew)); exact HO2.out) hb); clear HO2; have HO2 := n_; clear n_; have nB_ := Aside0.mk (below_step (by repeat (first | (with_reducible first | exact HB.out | apply below_alloc | apply pw_below_drewN | apply below_drew1) | exact HB.out)) hb); clear HB; have HB := nB_; clear nB_; clear hOI_ ho_ hb; obtain ⟨B3, d3, ev_⟩ := Kd.R_slice HO3.out; subst ev_; clear HO2; have TK3 : Aside0 True := ⟨trivial⟩) | (have tok_ := TK3; clear TK3 tok_; go_at_call 17; refine (laws_toTeamS.calls (k := k) (A0 := A0) (c0 := c0) (l0 := l0) (r := x4) (h := hx4.out) (hr0 := ?hr0) (hc0 := ?hc0)).mono ?_; (case hr0 => exact Kd.C_below HR0.out (by repeat (first | (with_reducible first | exact HB.out | apply below_alloc | apply pw_below_drewN | apply below_drew1) | exact HB.out))); (case hc0 => exact HC0.out); rintro e w4 ⟨v_, rfl, ho_, hb⟩; have hOI_ : Kd.R k61 61 w4 w3.heap.size (fun k => w3.heap.size ≤ k ∧ k < w4.heap.size) _ _ := M.own_interval (Kd.S_R ho_); have HO4 := Aside0.mk (Kd.R_lower hOI_ (below_size (by repeat (first | (with_reducible first | exact HB.out | apply below_alloc | apply pw_below_drewN | apply below_drew1) | exact HB.out)))); have HSZ4 : Aside0 (w3.heap.size ≤ w4.heap.size) := ⟨hb.size⟩; have n_ := Aside0.mk (Kd.R_below (by (with_reducible repeat (first | apply Kd.R_alloc | apply Kd.R_drewN | apply Kd.R_drew)); exact HO3.out) hb); clear HO3; have HO3 := n_; clear n_; have nB_ := Aside0.mk (below_step (by repeat (first | (with_reducible first | exact HB.out | apply below_alloc | apply pw_below_drewN | apply below_drew1) | exact HB.out)) hb); clear HB; have HB := nB_; clear nB_; clear hOI_ ho_ hb; obtain ⟨B4, d4, ev_⟩ := Kd.R_slice HO4.out; subst ev_; have TK4 : Aside0 True := ⟨trivial⟩) | (have tok_ := TK4; clear TK4 tok_; go_at_call 43; refine (impl_AddResult.calls (k := k) (A0 := B4) (c0 := d4) (l0 := x4) (a1 := a1) (a2 := a2) (a3 := a3) (a4 := a4) (a5 := a5) (r1 := x5) (r2 := b3) (h := hx5.out) (hr0 := ?hr0) (hc0 := ?hc0)).mono ?_; (case hr0 => (with_reducible repeat (first | apply Kd.C_alloc | apply Kd.C_drewN | apply Kd.C_drew)); exact (Kd.R_reads' HO4.out).2.2); (case hc0 => exact (Kd.R_reads' HO4.out).2.1); rintro e w5 ⟨v_, rfl, ho_, hb⟩; have hOI_ : Kd.S k61 61 w5 w4.heap.size (fun k => w4.heap.size ≤ k ∧ k < w5.heap.size) _ _ := own_intervalS ho_; have HO5 := Aside0.mk (Kd.S_lower hOI_ (below_size (by repeat (first | (with_reducible first | exact HB.out | apply below_alloc | apply pw_below_drewN | apply below_drew1) | exact HB.out)))); have HSZ5 : Aside0 (w4.heap.size ≤ w5.heap.size) := ⟨hb.size⟩; have n_ := Aside0.mk (Kd.R_below (by (with_reducible repeat (first | apply Kd.R_alloc | apply Kd.R_drewN | apply Kd.R_drew)); exact HO3.out) hb); clear HO3; have HO3 := n_; clear n_; have n_ := Aside0.mk (Kd.R_below (by (with_reducible repeat (first | apply Kd.R_alloc | apply Kd.R_drewN | apply Kd.R_drew)); exact HO4.out) hb); clear HO4; have HO4 := n_; clear n_; have nB_ := Aside0.mk (below_step (by repeat (first | (with_reducible first | exact HB.out | apply below_alloc | apply pw_below_drewN | apply below_drew1) | exact HB.out)) hb); clear HB; have HB := nB_; clear nB_; clear hOI_ ho_ hb; obtain ⟨B5, d5, ev_⟩ := Kd.S_slice HO5.out; subst ev_; have TK5 : Aside0 True := ⟨trivial⟩) | (have tok_ := TK5; clear TK5 tok_; go_at_call 19; refine (laws_eqTeamS.calls (k := k) (A0 := B5) (c0 := d5) (l0 := x5) (A1 := B3) (c1 := d3) (l1 := x3) (r := true) (h := hx6.out) (hr0 := ?hr0) (hc0 := ?hc0) (hr1 := ?hr1) (hc1 := ?hc1)).mono ?_; (case hr0 => (with_reducible repeat (first | apply Kd.C_alloc | apply Kd.C_drewN | apply Kd.C_drew)); exact (Kd.S_reads' HO5.out).2.2); (case hc0 => exact (Kd.S_reads' HO5.out).2.1); (case hr1 => (with_reducible repeat (first | apply Kd.C_alloc | apply Kd.C_drewN | apply Kd.C_drew)); exact (Kd.R_reads' HO3.out).2.2); (case hc1 => exact (Kd.R_reads' HO3.out).2.1); rintro e w6 ⟨rfl, hb⟩; have HSZ6 : Aside0 (w5.heap.size ≤ w6.heap.size) := ⟨hb.size⟩; have n_ := Aside0.mk (Kd.R_below (by (with_reducible repeat (first | apply Kd.R_alloc | apply Kd.R_drewN | apply Kd.R_drew)); exact HO3.out) hb); clear HO3; have HO3 := n_; clear n_; have n_ := Aside0.mk (Kd.R_below (by (with_reducible repeat (first | apply Kd.R_alloc | apply Kd.R_drewN | apply Kd.R_drew)); exact HO4.out) hb); clear HO4; have HO4 := n_; clear n_; have n_ := Aside0.mk (Kd.S_below (by (with_reducible repeat (first | apply Kd.S_alloc | apply Kd.S_drewN | apply Kd.S_drew)); exact HO5.out) hb); clear HO5; have HO5 := n_; clear n_; have nB_ := Aside0.mk (below_step (by repeat (first | (with_reducible first | exact HB.out | apply below_alloc | apply pw_below_drewN | apply below_drew1) | exact HB.out)) hb); clear HB; have HB := nB_; clear nB_; clear hb; have TK6 : Aside0 True := ⟨trivial⟩) | (have tok_ := TK6; clear TK6 tok_; go_at_call 17; refine (laws_toTeamS.calls (k := k) (A0 := A0) (c0 := c0) (l0 := l0) (r := x7) (h := hx7.out) (hr0 := ?hr0) (hc0 := ?hc0)).mono ?_; (case hr0 => exact Kd.C_below HR0.out (by repeat (first | (with_reducible first | exact HB.out | apply below_alloc | apply pw_below_drewN | apply below_drew1) | exact HB.out))); (case hc0 => exact HC0.out); rintro e w7 ⟨v_, rfl, ho_, hb⟩; have hOI_ : Kd.R k61 61 w7 w6.heap.size (fun k => w6.heap.size ≤ k ∧ k < w7.heap.size) _ _ := M.own_interval (Kd.S_R ho_); have HO7 := Aside0.mk (Kd.R_lower hOI_ (below_size (by repeat (first | (with_reducible first | exact HB.out | apply below_alloc | apply pw_below_drewN | apply below_drew1) | exact HB.out)))); have HSZ7 : Aside0 (w6.heap.size ≤ w7.heap.size) := ⟨hb.size⟩; have n_ := Aside0.mk (Kd.R_below (by (with_reducible repeat (first | apply Kd.R_alloc | apply Kd.R_drewN | apply Kd.R_drew)); exact HO3.out) hb); clear HO3; have HO3 := n_; clear n_; have n_ := Aside0.mk (Kd.R_below (by (with_reducible repeat (first | apply Kd.R_alloc | apply Kd.R_drewN | apply Kd.R_drew)); exact HO4.out) hb); clear HO4; have HO4 := n_; clear n_; have n_ := Aside0.mk (Kd.S_below (by (with_reducible repeat (first | apply Kd.S_alloc | apply Kd.S_drewN | apply Kd.S_drew)); exact HO5.out) hb); clear HO5; have HO5 := n_; clear n_; have nB_ := Aside0.mk (below_step (by repeat (first | (with_reducible first | exact HB.out | apply below_alloc | apply pw_below_drewN | apply below_drew1) | exact HB.out)) hb); clear HB; have HB := nB_; clear nB_; clear hOI_ ho_ hb; obtain ⟨B7, d7, ev_⟩ := Kd.R_slice HO7.out; subst ev_; have TK7 : Aside0 True := ⟨trivial⟩) | (have tok_ := TK7; clear TK7 tok_; go_at_call 19; refine (laws_eqTeamS.calls (k := k) (A0 := B4) (c0 := d4) (l0 := x4) (A1 := B7) (c1 := d7) (l1 := x7) (r := true) (h := hx8.out) (hr0 := ?hr0) (hc0 := ?hc0) (hr1 := ?hr1) (hc1 := ?hc1)).mono ?_; (case hr0 => (with_reducible repeat (first | apply Kd.C_alloc | apply Kd.C_drewN | apply Kd.C_drew)); exact (Kd.R_reads' HO4.out).2.2); (case hc0 => exact (Kd.R_reads' HO4.out).2.1); (case hr1 => (with_reducible repeat (first | apply Kd.C_alloc | apply Kd.C_drewN | apply Kd.C_drew)); exact (Kd.R_reads' HO7.out).2.2); (case hc1 => exact (Kd.R_reads' HO7.out).2.1); rintro e w8 ⟨rfl, hb⟩; have HSZ8 : Aside0 (w7.heap.size ≤ w8.heap.size) := ⟨hb.size⟩; have n_ := Aside0.mk (Kd.R_below (by (with_reducible repeat (first | apply Kd.R_alloc | apply Kd.R_drewN | apply Kd.R_drew)); exact HO3.out) hb); clear HO3; have HO3 := n_; clear n_; have n_ := Aside0.mk (Kd.R_below (by (with_reducible repeat (first | apply Kd.R_alloc | apply Kd.R_drewN | apply Kd.R_drew)); exact HO4.out) hb); clear HO4; have HO4 := n_; clear n_; have n_ := Aside0.mk (Kd.S_below (by (with_reducible repeat (first | apply Kd.S_alloc | apply Kd.S_drewN | apply Kd.S_drew)); exact HO5.out) hb); clear HO5; have HO5 := n_; clear n_; have n_ := Aside0.mk (Kd.R_below (by (with_reducible repeat (first | apply Kd.R_alloc | apply Kd.R_drewN | apply Kd.R_drew)); exact HO7.out) hb); clear HO7; have HO7 := n_; clear n_; have nB_ := Aside0.mk (below_step (by repeat (first | (with_reducible first | exact HB.out | apply below_alloc | apply pw_below_drewN | apply below_drew1) | exact HB.out)) hb); clear HB; have HB := nB_; clear nB_; clear hb; clear HO7; have TK8 : Aside0 True := ⟨trivial⟩) | (have tok_ := TK8; clear TK8 tok_; go_at_call 36; refine (M.markTeams (e := 61) (base := w.heap.size) (fun k => w3.heap.size ≤ k ∧ k < w4.heap.size) B4 d4 x4 1 _ ?q1 ?q1b ?q1c ?q2 ?q3).mono ?_; (case q1 => exact (by (with_reducible repeat (first | apply Kd.R_alloc | apply Kd.R_drewN | apply Kd.R_drew)); exact HO4.out)); (case q1b => exact HTK9.out.1.1); (case q1c => exact HTK9.out.1.2); (case q2 => omega); (case q3 => have := HTK9.out.2; omega); rintro e w9 ⟨he_, hm_⟩; rw [← HKK9.out] at he_; subst he_; have n_ := Aside0.mk (Kd.R_kept (by (with_reducible repeat (first | apply Kd.R_alloc | apply Kd.R_drewN | apply Kd.R_drew)); exact HO3.out) hm_.kept (fun k h1 h2 => by obtain ⟨h1a, h1b⟩ := h1; obtain ⟨h2a, h2b⟩ := h2; have := HSZ1.out; have := HSZ2.out; have := HSZ3.out; have := HSZ4.out; have := HSZ5.out; have := HSZ6.out; have := HSZ7.out; have := HSZ8.out; omega)); clear HO3; have HO3 := n_; clear n_; have n_ := Aside0.mk (Kd.S_kept (by (with_reducible repeat (first | apply Kd.S_alloc | apply Kd.S_drewN | apply Kd.S_drew)); exact HO5.out) hm_.kept (fun k h1 h2 => by obtain ⟨h1a, h1b⟩ := h1; obtain ⟨h2a, h2b⟩ := h2; have := HSZ1.out; have := HSZ2.out; have := HSZ3.out; have := HSZ4.out; have := HSZ5.out; have := HSZ6.out; have := HSZ7.out; have := HSZ8.out; omega)); clear HO5; have HO5 := n_; clear n_; have nB_ := Aside0.mk (M.MI.below hm_ (by repeat (first | (with_reducible first | exact HB.out | apply below_alloc | apply pw_below_drewN | apply below_drew1) | exact HB.out)) (fun k hk => by have := hk.1; have := HSZ1.out; have := HSZ2.out; have := HSZ3.out; have := HSZ4.out; have := HSZ5.out; have := HSZ6.out; have := HSZ7.out; have := HSZ8.out; omega)); clear HB; have HB := nB_; clear nB_ HO4; have HSZ9 : Aside0 (w8.heap.size ≤ w9.heap.size) := ⟨hm_.size⟩; clear hm_; have TK9 : Aside0 True := ⟨trivial⟩) | (have tok_ := TK9; clear TK9 tok_; go_at_call 19; refine (laws_eqTeamS.calls (k := k) (A0 := B5) (c0 := d5) (l0 := x5) (A1 := B3) (c1 := d3) (l1 := x3) (r := true) (h := hx10.out) (hr0 := ?hr0) (hc0 := ?hc0) (hr1 := ?hr1) (hc1 := ?hc1)).mono ?_; (case hr0 => (with_reducible repeat (first | apply Kd.C_alloc | apply Kd.C_drewN | apply Kd.C_drew)); exact (Kd.S_reads' HO5.out).2.2); (case hc0 => exact (Kd.S_reads' HO5.out).2.1); (case hr1 => (with_reducible repeat (first | apply Kd.C_alloc | apply Kd.C_drewN | apply Kd.C_drew)); exact (Kd.R_reads' HO3.out).2.2); (case hc1 => exact (Kd.R_reads' HO3.out).2.1); rintro e w10 ⟨rfl, hb⟩; have HSZ10 : Aside0 (w9.heap.size ≤ w10.heap.size) := ⟨hb.size⟩; have n_ := Aside0.mk (Kd.R_below (by (with_reducible repeat (first | apply Kd.R_alloc | apply Kd.R_drewN | apply Kd.R_drew)); exact HO3.out) hb); clear HO3; have HO3 := n_; clear n_; have n_ := Aside0.mk (Kd.S_below (by (with_reducible repeat (first | apply Kd.S_alloc | apply Kd.S_drewN | apply Kd.S_drew)); exact HO5.out) hb); clear HO5; have HO5 := n_; clear n_; have nB_ := Aside0.mk (below_step (by repeat (first | (with_reducible first | exact HB.out | apply below_alloc | apply pw_below_drewN | apply below_drew1) | exact HB.out)) hb); clear HB; have HB := nB_; clear nB_; clear hb; have TK10 : Aside0 True := ⟨trivial⟩) | (have tok_ := TK10; clear TK10 tok_; go_at_call 36; refine (laws_markTeamS.calls (P0_ := fun k => w4.heap.size ≤ k ∧ k < w5.heap.size) (u9000_ := .slice B5 x5.length d5) (l0 := x5) (a1 := 1) (r1 := m11) (r2 := y11) (w0 := w) (h := hx11.out) (hB := ?q1) (ho0 := ?q2)).mono ?_; (case q1 => exact (by repeat (first | (with_reducible first | exact HB.out | apply below_alloc | apply pw_below_drewN | apply below_drew1) | exact HB.out))); (case q2 => (with_reducible repeat (first | apply Kd.S_alloc | apply Kd.S_drewN | apply Kd.S_drew)); exact HO5.out); rintro e w11 ⟨rfl, ho_, hb_, hk_⟩; have n_ := Aside0.mk (Kd.R_kept (by (with_reducible repeat (first | apply Kd.R_alloc | apply Kd.R_drewN | apply Kd.R_drew)); exact HO3.out) hk_ (fun k h1 h2 => by obtain ⟨h1a, h1b⟩ := h1; obtain ⟨h2a, h2b⟩ := h2; have := HSZ1.out; have := HSZ2.out; have := HSZ3.out; have := HSZ4.out; have := HSZ5.out; have := HSZ6.out; have := HSZ7.out; have := HSZ8.out; have := HSZ9.out; have := HSZ10.out; omega)); clear HO3; have HO3 := n_; clear n_; clear HO5; have HO5 := Aside0.mk ho_; have el_ : x5.length = y11.length := (Kd.S_reads' ho_).1; clear HB; have HB := Aside0.mk hb_; have HSZ11 : Aside0 (w10.heap.size ≤ w11.heap.size) := ⟨hk_.1⟩; clear ho_ hb_ hk_; rw [el_]; rw [el_] at HO5; clear el_; have TK11 : Aside0 True := ⟨trivial⟩) | (have tok_ := TK11; clear TK11 tok_; go_at_call 44; refine (laws_heldTeamS.calls (k := k) (A0 := B5) (c0 := d5) (l0 := y11) (a1 := 1) (r := m11) (h := hx12.out) (hr0 := ?hr0) (hc0 := ?hc0)).mono ?_; (case hr0 => (with_reducible repeat (first | apply Kd.C_alloc | apply Kd.C_drewN | apply Kd.C_drew)); exact (Kd.S_reads' HO5.out).2.2); (case hc0 => exact (Kd.S_reads' HO5.out).2.1); rintro e w12 ⟨rfl, hd_⟩; have hb := M.drawn_below hd_; clear hd_; have HSZ12 : Aside0 (w11.heap.size ≤ w12.heap.size) := ⟨hb.size⟩; have n_ := Aside0.mk (Kd.R_below (by (with_reducible repeat (first | apply Kd.R_alloc | apply Kd.R_drewN | apply Kd.R_drew)); exact HO3.out) hb); clear HO3; have HO3 := n_; clear n_; have n_ := Aside0.mk (Kd.S_below (by (with_reducible repeat (first | apply Kd.S_alloc | apply Kd.S_drewN | apply Kd.S_drew)); exact HO5.out) hb); clear HO5; have HO5 := n_; clear n_; have nB_ := Aside0.mk (below_step (by repeat (first | (with_reducible first | exact HB.out | apply below_alloc | apply pw_below_drewN | apply below_drew1) | exact HB.out)) hb); clear HB; have HB := nB_; clear nB_; clear hb; have TK12 : Aside0 True := ⟨trivial⟩) | (have tok_ := TK12; clear TK12 tok_; go_at_call 17; refine (laws_toTeamS.calls (k := k) (A0 := A0) (c0 := c0) (l0 := l0) (r := x13) (h := hx13.out) (hr0 := ?hr0) (hc0 := ?hc0)).mono ?_; (case hr0 => exact Kd.C_below HR0.out (by repeat (first | (with_reducible first | exact HB.out | apply below_alloc | apply pw_below_drewN | apply below_drew1) | exact HB.out))); (case hc0 => exact HC0.out); rintro e w13 ⟨v_, rfl, ho_, hb⟩; have hOI_ : Kd.R k61 61 w13 w12.heap.size (fun k => w12.heap.size ≤ k ∧ k < w13.heap.size) _ _ := M.own_interval (Kd.S_R ho_); have HO13 := Aside0.mk (Kd.R_lower hOI_ (below_size (by repeat (first | (with_reducible first | exact HB.out | apply below_alloc | apply pw_below_drewN | apply below_drew1) | exact HB.out)))); have HSZ13 : Aside0 (w12.heap.size ≤ w13.heap.size) := ⟨hb.size⟩; have n_ := Aside0.mk (Kd.R_below (by (with_reducible repeat (first | apply Kd.R_alloc | apply Kd.R_drewN | apply Kd.R_drew)); exact HO3.out) hb); clear HO3; have HO3 := n_; clear n_; have n_ := Aside0.mk (Kd.S_below (by (with_reducible repeat (first | apply Kd.S_alloc | apply Kd.S_drewN | apply Kd.S_drew)); exact HO5.out) hb); clear HO5; have HO5 := n_; clear n_; have nB_ := Aside0.mk (below_step (by repeat (first | (with_reducible first | exact HB.out | apply below_alloc | apply pw_below_drewN | apply below_drew1) | exact HB.out)) hb); clear HB; have HB := nB_; clear nB_; clear hOI_ ho_ hb; obtain ⟨B13, d13, ev_⟩ := Kd.R_slice HO13.out; subst ev_; have TK13 : Aside0 True := ⟨trivial⟩) | (have tok_ := TK13; clear TK13 tok_; go_at_call 43; refine (impl_AddResult.calls (k := k) (A0 := B13) (c0 := d13) (l0 := x13) (a1 := a1) (a2 := a2) (a3 := a3) (a4 := a4) (a5 := a5) (r1 := x14) (r2 := b3) (h := hx14.out) (hr0 := ?hr0) (hc0 := ?hc0)).mono ?_; (case hr0 => (with_reducible repeat (first | apply Kd.C_alloc | apply Kd.C_drewN | apply Kd.C_drew)); exact (Kd.R_reads' HO13.out).2.2); (case hc0 => exact (Kd.R_reads' HO13.out).2.1); rintro e w14 ⟨v_, rfl, ho_, hb⟩; have hOI_ : Kd.S k61 61 w14 w13.heap.size (fun k => w13.heap.size ≤ k ∧ k < w14.heap.size) _ _ := own_intervalS ho_; have HO14 := Aside0.mk (Kd.S_lower hOI_ (below_size (by repeat (first | (with_reducible first | exact HB.out | apply below_alloc | apply pw_below_drewN | apply below_drew1) | exact HB.out)))); have HSZ14 : Aside0 (w13.heap.size ≤ w14.heap.size) := ⟨hb.size⟩; have n_ := Aside0.mk (Kd.R_below (by (with_reducible repeat (first | apply Kd.R_alloc | apply Kd.R_drewN | apply Kd.R_drew)); exact HO3.out) hb); clear HO3; have HO3 := n_; clear n_; have n_ := Aside0.mk (Kd.S_below (by (with_reducible repeat (first | apply Kd.S_alloc | apply Kd.S_drewN | apply Kd.S_drew)); exact HO5.out) hb); clear HO5; have HO5 := n_; clear n_; have n_ := Aside0.mk (Kd.R_below (by (with_reducible repeat (first | apply Kd.R_alloc | apply Kd.R_drewN | apply Kd.R_drew)); exact HO13.out) hb); clear HO13; have HO13 := n_; clear n_; have nB_ := Aside0.mk (below_step (by repeat (first | (with_reducible first | exact HB.out | apply below_alloc | apply pw_below_drewN | apply below_drew1) | exact HB.out)) hb); clear HB; have HB := nB_; clear nB_; clear hOI_ ho_ hb; obtain ⟨B14, d14, ev_⟩ := Kd.S_slice HO14.out; subst ev_; clear HO13; have TK14 : Aside0 True := ⟨trivial⟩) | (have tok_ := TK14; clear TK14 tok_; go_at_call 19; refine (laws_eqTeamS.calls (k := k) (A0 := B14) (c0 := d14) (l0 := x14) (A1 := B3) (c1 := d3) (l1 := x3) (r := true) (h := hx15.out) (hr0 := ?hr0) (hc0 := ?hc0) (hr1 := ?hr1) (hc1 := ?hc1)).mono ?_; (case hr0 => (with_reducible repeat (first | apply Kd.C_alloc | apply Kd.C_drewN | apply Kd.C_drew)); exact (Kd.S_reads' HO14.out).2.2); (case hc0 => exact (Kd.S_reads' HO14.out).2.1); (case hr1 => (with_reducible repeat (first | apply Kd.C_alloc | apply Kd.C_drewN | apply Kd.C_drew)); exact (Kd.R_reads' HO3.out).2.2); (case hc1 => exact (Kd.R_reads' HO3.out).2.1); rintro e w15 ⟨rfl, hb⟩; have HSZ15 : Aside0 (w14.heap.size ≤ w15.heap.size) := ⟨hb.size⟩; have n_ := Aside0.mk (Kd.R_below (by (with_reducible repeat (first | apply Kd.R_alloc | apply Kd.R_drewN | apply Kd.R_drew)); exact HO3.out) hb); clear HO3; have HO3 := n_; clear n_; have n_ := Aside0.mk (Kd.S_below (by (with_reducible repeat (first | apply Kd.S_alloc | apply Kd.S_drewN | apply Kd.S_drew)); exact HO5.out) hb); clear HO5; have HO5 := n_; clear n_; have n_ := Aside0.mk (Kd.S_below (by (with_reducible repeat (first | apply Kd.S_alloc | apply Kd.S_drewN | apply Kd.S_drew)); exact HO14.out) hb); clear HO14; have HO14 := n_; clear n_; have nB_ := Aside0.mk (below_step (by repeat (first | (with_reducible first | exact HB.out | apply below_alloc | apply pw_below_drewN | apply below_drew1) | exact HB.out)) hb); clear HB; have HB := nB_; clear nB_; clear hb; clear HO3 HO14; have TK15 : Aside0 True := ⟨trivial⟩) | (have tok_ := TK15; clear TK15 tok_; go_at_call 44; refine (laws_heldTeamS.calls (k := k) (A0 := B5) (c0 := d5) (l0 := y11) (a1 := 1) (r := m11) (h := hx16.out) (hr0 := ?hr0) (hc0 := ?hc0)).mono ?_; (case hr0 => (with_reducible repeat (first | apply Kd.C_alloc | apply Kd.C_drewN | apply Kd.C_drew)); exact (Kd.S_reads' HO5.out).2.2); (case hc0 => exact (Kd.S_reads' HO5.out).2.1); rintro e w16 ⟨rfl, hd_⟩; have hb := M.drawn_below hd_; clear hd_; have HSZ16 : Aside0 (w15.heap.size ≤ w16.heap.size) := ⟨hb.size⟩; have n_ := Aside0.mk (Kd.S_below (by (with_reducible repeat (first | apply Kd.S_alloc | apply Kd.S_drewN | apply Kd.S_drew)); exact HO5.out) hb); clear HO5; have HO5 := n_; clear n_; have nB_ := Aside0.mk (below_step (by repeat (first | (with_reducible first | exact HB.out | apply below_alloc | apply pw_below_drewN | apply below_drew1) | exact HB.out)) hb); clear HB; have HB := nB_; clear nB_; clear hb; clear HO5; have TK16 : Aside0 True := ⟨trivial⟩))
  go_ret
  exact ⟨rfl, (by repeat (first | (with_reducible first | exact HB.out | apply below_alloc | apply pw_below_drewN | apply below_drew1) | exact HB.out))⟩
end Go.Proofs.Ytiimiogpiflkdaa.A
end

section
set_option linter.unusedVariables false
namespace Go.Proofs.Ytiimiogpiflkdaa.Open
open Go.ChangeShapes Go.WideShapes Go.Deep Go.RowKit Go.Proofs.YtiimiogpiflkdaaW.PrintWords
def Opn (P : Program) (t : TypeId) {α : Type} (d : Kd α) : Prop :=
  ∀ (H : Type) (enc : TypeId × Value → H) (w : World) (base : Nat) (spare : Nat → Bool) (held : Bool) (fuel : Nat) (cs : List Value) (y : DataW H × List MemPlace),
    DataW.trod enc P w base spare held fuel t cs = some y → ∃ x : α, d.K w x cs
def OpnL (P : Program) (fs : List Field) {α : Type} (d : Kd α) : Prop :=
  ∀ (H : Type) (enc : TypeId × Value → H) (w : World) (base : Nat) (spare : Nat → Bool) (held : Bool) (cs : List Value), cs.length = fs.length →
    (∀ (j : Nat) (f : Field) (c : Value), fs[j]? = some f → cs[j]? = some c → ∃ (n : Nat) (y : DataW H × List MemPlace), DataW.trod enc P w base spare held n f.type [c] = some y) → ∃ x : α, d.K w x cs
theorem opn_int {P : Program} {t : TypeId} {k : IntKind} (ht : P.underlying t = some (.int k)) : Opn P t (Kd.int k) := by
  intro H enc w base spare held fuel cs y h
  obtain ⟨n, rfl, _⟩ := DataW.trod_int ht h
  exact ⟨n, rfl⟩
theorem opnL_one {P : Program} {f : Field} {α : Type} {d : Kd α} (h : Opn P f.type d) : OpnL P [f] d := by
  intro H enc w base spare held cs hl hf
  match cs, hl with
  | [c], _ =>
    obtain ⟨n, y, hy⟩ := hf 0 f c rfl rfl
    exact h H enc w base spare held n [c] y hy
theorem opnL_cons {P : Program} {f : Field} {fs : List Field} {α β : Type} {a : Kd α} {b : Kd β} (h : Opn P f.type a) (hs : OpnL P fs b) : OpnL P (f :: fs) (Kd.pair a b) := by
  intro H enc w base spare held cs hl hf
  match cs, hl with
  | c :: cs, hl =>
    obtain ⟨n, y, hy⟩ := hf 0 f c rfl rfl
    obtain ⟨x, hx⟩ := h H enc w base spare held n [c] y hy
    obtain ⟨z, hz⟩ := hs H enc w base spare held cs (by simpa using hl) (fun j f' c' h1 h2 => hf (j + 1) f' c' (by simpa using h1) (by simpa using h2))
    exact ⟨(x, z), [c], cs, rfl, hx, hz⟩
theorem opn_struct {P : Program} {t : TypeId} {fs : Array Field} (ht : P.underlying t = some (.struct fs)) (hone : oneCellFields P fs = true) (hC : P.cellsOf t = fs.size)
    {α : Type} {d : Kd α} (hL : OpnL P fs.toList d) : Opn P t d := by
  intro H enc w base spare held fuel cs y h
  obtain ⟨xs, n, _, _, hlen, hxl, hf⟩ := DataW.trod_struct ht h
  refine hL H enc w base spare held cs (by rw [hlen, hC, Array.length_toList]) (fun j f c hj hc => ?_)
  have hj' : fs[j]? = some f := by simpa using hj
  obtain ⟨ho, hk⟩ := hone_of hone j f hj'
  have h1 := hf j f hj'
  rw [ho, hk] at h1
  have hjl : j < fs.size := (Array.getElem?_eq_some_iff.1 hj').1
  have hcl : j < cs.length := (List.getElem?_eq_some_iff.1 hc).1
  have e1 : (cs.drop j).take 1 = [c] := by
    rw [List.drop_eq_getElem_cons hcl]
    have : cs[j] = c := (List.getElem?_eq_some_iff.1 hc).2
    rw [this]; rfl
  rw [e1] at h1
  exact ⟨n, xs[j]'(by omega), h1.trans (List.getElem?_eq_getElem (by omega))⟩
theorem opn_iso {P : Program} {t : TypeId} {α β : Type} {d : Kd α} {f : β → α} (h : Opn P t d) (hs : ∀ a, ∃ b, f b = a) : Opn P t (Kd.iso d f) := by
  intro H enc w base spare held fuel cs y hy
  obtain ⟨x, hx⟩ := h H enc w base spare held fuel cs y hy
  obtain ⟨z, rfl⟩ := hs x
  exact ⟨z, hx⟩
theorem list_of {α : Type} {p : Nat → α → Prop} : ∀ n, (∀ i, i < n → ∃ x, p i x) → ∃ l : List α, l.length = n ∧ ∀ i x, l[i]? = some x → p i x
  | 0, _ => ⟨[], rfl, fun i x h => by simp at h⟩
  | n + 1, h => by
    obtain ⟨l, hl, hp⟩ := list_of n (fun i hi => h i (by omega))
    obtain ⟨x, hx⟩ := h n (by omega)
    refine ⟨l ++ [x], by simp [hl], fun i y hy => ?_⟩
    rcases Nat.lt_or_ge i l.length with hi | hi
    · rw [List.getElem?_append_left hi] at hy
      exact hp i y hy
    · have hi' : i = l.length := by
        have := (List.getElem?_eq_some_iff.1 hy).1
        rw [List.length_append, List.length_singleton] at this
        omega
      subst hi'
      have : x = y := by simpa using hy
      subst this
      rw [hl]
      exact hx
theorem opn_slice {P : Program} {t e : TypeId} {α : Type} {d : Kd α} (ht : P.underlying t = some (.slice e)) (hC : P.cellsOf e = d.sz) (he : Opn P e d) : Opn P t (Kd.slice e d) := by
  intro H enc w base spare held fuel cs y h
  rcases open_slice ht h with ⟨rfl, _⟩ | ⟨a, len, cap, m, n, D, Pl, rfl, hb, hl, hm, hmm, hx, hi⟩
  · exact ⟨[], none, 0, rfl, Nat.le_refl _, rfl, by simp, fun h => absurd h (by simp)⟩
  · have hlm : len ≤ m := by rw [hmm]; split <;> omega
    obtain ⟨xs, hxl, hp⟩ := list_of (p := fun i x => ∃ cs', w.cells? base (a.add (i * P.cellsOf e)) (P.cellsOf e) = some cs' ∧ d.K w x cs') len (fun i hil => by
      obtain ⟨cs', h1, h2⟩ := hi i (by omega)
      obtain ⟨x, hx⟩ := he H enc w base spare held n cs' _ h2
      exact ⟨x, cs', h1, hx⟩)
    refine ⟨xs, some a, cap, by rw [hxl], by omega, rfl, by unfold maxLen at hm; omega, fun _ => ⟨a, rfl, fun j p hj => ?_⟩⟩
    obtain ⟨cs', hc, hk⟩ := hp j p hj
    obtain ⟨_, hcl, hat⟩ := World.cells?_some hc
    refine ⟨cs', d.K_len hk, hk, fun i u hu => ?_⟩
    have hil : i < cs'.length := (List.getElem?_eq_some_iff.1 hu).1
    have := hat i (by omega)
    rw [Go.Deep.add_add, hC] at this
    rw [this]
    exact hu
theorem opened {H : Type} {enc : TypeId × Value → H} {P : Program} {W : World} {base : Nat} {spare : Nat → Bool} {held : Bool} {t e : TypeId} {α : Type} {d : Kd α} (h : Opn P t (Kd.slice e d)) {a : Option Addr} {len cap : Nat} {dd : DataW H} {ps : List MemPlace}
    (ht : DataW.Trod enc P W base spare held t (.slice a len cap) dd ps) : ∃ l : List α, l.length = len ∧ l.length ≤ cap ∧ d.C W a l.length l := by
  obtain ⟨fuel, hf⟩ := ht
  obtain ⟨l, A, c, he, hl, hc⟩ := h H enc W base spare held fuel _ _ hf
  simp [Value.cells] at he
  obtain ⟨rfl, rfl, rfl⟩ := he
  exact ⟨l, rfl, hl, hc⟩
theorem C_mem {α : Type} {d : Kd α} {w : World} {A : Option Addr} {n : Nat} {xs : List α} (h : d.C w A n xs) (x : α) (hx : x ∈ xs) : ∃ c, d.K w x c := by
  obtain ⟨j, hj, rfl⟩ := List.mem_iff_getElem.1 hx
  have h0 : 0 < n := by have := h.1; omega
  obtain ⟨ad, _, hc⟩ := h.2.2 h0
  obtain ⟨c, _, hk, _⟩ := hc j _ (List.getElem?_eq_getElem hj)
  exact ⟨c, hk⟩
end Go.Proofs.Ytiimiogpiflkdaa.Open
end

section
set_option linter.unusedVariables false
set_option linter.unusedSimpArgs false
namespace Go.Proofs.Ytiimiogpiflkdaa.L
open Go Go.RowKit Go.Proofs.Ytiimiogpiflkdaa.A Go.Proofs.YtiimiogpiflkdaaW.PrintWords
theorem sAreTeams_ev (l : List Tm) (hs : Small l) : Ev (fun k => spec_AreTeams.f k l) (areT l) := by
  unfold spec_AreTeams.f
  exact Ev.pos (of_small hs) (Ev.now _)
theorem iAreTeams_ev (l : List Tm) (hs : Small l) : Ev (fun k => impl_AreTeams.f k l) (areT l) := by
  unfold impl_AreTeams.f
  exact Ev.pos (of_small hs) (Ev.now _)
end Go.Proofs.Ytiimiogpiflkdaa.L
end

section
namespace Go.Proofs.Ytiimiogpiflkdaa.A
open Go.RowKit Go.Proofs.YtiimiogpiflkdaaW.PrintWords Go.Proofs.YtiimiogpiflkdaaW.PrintLast Go.Proofs.YtiimiogpiflkdaaW.PrintMore
attribute [local go_sem] max2_int min2_int max_two min_two max_three min_three max_four min_four   -- for this text's walks alone
set_option linter.unusedVariables false
set_option linter.unusedSimpArgs false
def impl_TotalWins.l0 : Nat → Int → List (S61) → Int → Int → Option (Int)
  | 0, _, _, _, _ => none
  | k + 1, x3, x10, x11, x12 => if x12 < x11 then (if 0 ≤ x12 then (if x12 < (x10.length : Int) then (impl_TotalWins.l0 k (wrap64 (x3 + ((rd_T61 x10 x12).f2))) x10 x11 (wrap64 (x12 + 1))) else (none)) else (none)) else (some x3)
def impl_TotalWins.f (k : Nat) (l0 : List (S61)) : Option (Int) := (impl_AreTeams.f k l0).bind fun t410 => (if t410 = true then (impl_TotalWins.l0 k 0 l0 (l0.length : Int) 0) else (some 0))
end Go.Proofs.Ytiimiogpiflkdaa.A
end

section
set_option linter.unusedVariables false
set_option linter.unusedSimpArgs false
namespace Go.Proofs.Ytiimiogpiflkdaa.L
open Go Go.RowKit Go.Proofs.Ytiimiogpiflkdaa.A Go.Proofs.YtiimiogpiflkdaaW.PrintWords
def winsT (l : List Tm) : Nat → Nat → Int → Int
  | 0, _, a => a
  | d + 1, n, a => winsT l d (n + 1) (wrap64 (a + (rdT l n).f2))
def sumT (l : List Tm) : Int := if areT l = true then winsT l l.length 0 0 else 0
end Go.Proofs.Ytiimiogpiflkdaa.L
end

section
namespace Go.Proofs.Ytiimiogpiflkdaa.A
open Go.RowKit Go.Proofs.YtiimiogpiflkdaaW.PrintWords Go.Proofs.YtiimiogpiflkdaaW.PrintLast Go.Proofs.YtiimiogpiflkdaaW.PrintMore
attribute [local go_sem] max2_int min2_int max_two min_two max_three min_three max_four min_four   -- for this text's walks alone
set_option linter.unusedVariables false
set_option linter.unusedSimpArgs false
def slices_Index_int_int.l0 : Nat → List Int → Int → Int → Int → Option (Int)
  | 0, _, _, _, _ => none
  | k + 1, x0, x1, x7, x8 => if x8 < x7 then (if 0 ≤ x8 then (if x8 < (x0.length : Int) then (if x1 = (rd x0 x8) then (some x8) else (slices_Index_int_int.l0 k x0 x1 x7 (wrap64 (x8 + 1)))) else (none)) else (none)) else (some (-1))
def slices_Index_int_int.f (k : Nat) (l0 : List Int) (a1 : Int) : Option (Int) := slices_Index_int_int.l0 k l0 a1 (l0.length : Int) 0
end Go.Proofs.Ytiimiogpiflkdaa.A
end

section
namespace Go.Proofs.Ytiimiogpiflkdaa.A
open Go.RowKit Go.Proofs.YtiimiogpiflkdaaW.PrintWords Go.Proofs.YtiimiogpiflkdaaW.PrintLast Go.Proofs.YtiimiogpiflkdaaW.PrintMore
attribute [local go_sem] max2_int min2_int max_two min_two max_three min_three max_four min_four   -- for this text's walks alone
set_option linter.unusedVariables false
set_option linter.unusedSimpArgs false
def slices_Contains_int_int.f (k : Nat) (l0 : List Int) (a1 : Int) : Option (Bool) := (slices_Index_int_int.f k l0 a1).bind fun t307 => (some (decide (t307 ≥ 0)))
end Go.Proofs.Ytiimiogpiflkdaa.A
end

section
set_option linter.unusedVariables false
set_option linter.unusedSimpArgs false
namespace Go.Proofs.Ytiimiogpiflkdaa.L
open Go Go.RowKit Go.Proofs.Ytiimiogpiflkdaa.A Go.Proofs.YtiimiogpiflkdaaW.PrintWords
def idx (l : List Int) (x : Int) : Int := if x ∈ l then (l.idxOf x : Int) else -1
end Go.Proofs.Ytiimiogpiflkdaa.L
end

section
namespace Go.Proofs.Ytiimiogpiflkdaa.A
open Go.RowKit Go.Proofs.YtiimiogpiflkdaaW.PrintWords Go.Proofs.YtiimiogpiflkdaaW.PrintLast Go.Proofs.YtiimiogpiflkdaaW.PrintMore
attribute [local go_sem] max2_int min2_int max_two min_two max_three min_three max_four min_four   -- for this text's walks alone
set_option linter.unusedVariables false
set_option linter.unusedSimpArgs false
def spec_l4Has.l0 : Nat → List Int → Int → Int → Option (Bool)
  | 0, _, _, _ => none
  | k + 1, x0, x1, x5 => if x5 < (x0.length : Int) then (if 0 ≤ x5 then (if (rd x0 x5) = x1 then (some true) else (spec_l4Has.l0 k x0 x1 (wrap64 (x5 + 1)))) else (none)) else (some false)
def spec_l4Has.f (k : Nat) (l0 : List Int) (a1 : Int) : Option (Bool) := spec_l4Has.l0 k l0 a1 0
end Go.Proofs.Ytiimiogpiflkdaa.A
end

section
set_option linter.unusedVariables false
set_option linter.unusedSimpArgs false
namespace Go.Proofs.Ytiimiogpiflkdaa.L
open Go Go.RowKit Go.Proofs.Ytiimiogpiflkdaa.A Go.Proofs.YtiimiogpiflkdaaW.PrintWords
end Go.Proofs.Ytiimiogpiflkdaa.L
end

section
namespace Go.Proofs.Ytiimiogpiflkdaa.A
open Go.RowKit Go.Proofs.YtiimiogpiflkdaaW.PrintWords Go.Proofs.YtiimiogpiflkdaaW.PrintLast Go.Proofs.YtiimiogpiflkdaaW.PrintMore
attribute [local go_sem] max2_int min2_int max_two min_two max_three min_three max_four min_four   -- for this text's walks alone
set_option linter.unusedVariables false
set_option linter.unusedSimpArgs false
def spec_HaveMet.f (k : Nat) (l0 : List (S61)) (a1 : Int) (a2 : Int) : Option (Bool) := (spec_FindTeam.f k l0 a1).bind fun t239 => (if t239 ≥ 0 then (if 0 ≤ t239 then (if t239 < (l0.length : Int) then ((spec_l4Has.f k ((rd_T61 l0 t239).f5) a2).bind fun t241 => (some t241)) else (none)) else (none)) else (some false))
end Go.Proofs.Ytiimiogpiflkdaa.A
end

section
namespace Go.Proofs.Ytiimiogpiflkdaa.A
open Go.RowKit Go.Proofs.YtiimiogpiflkdaaW.PrintWords Go.Proofs.YtiimiogpiflkdaaW.PrintLast Go.Proofs.YtiimiogpiflkdaaW.PrintMore
attribute [local go_sem] max2_int min2_int max_two min_two max_three min_three max_four min_four   -- for this text's walks alone
set_option linter.unusedVariables false
set_option linter.unusedSimpArgs false
def impl_HaveMet.f (k : Nat) (l0 : List (S61)) (a1 : Int) (a2 : Int) : Option (Bool) := (impl_FindTeam.f l0 a1).bind fun t308 => (if t308 ≥ 0 then (if 0 ≤ t308 then (if t308 < (l0.length : Int) then ((slices_Contains_int_int.f k ((rd_T61 l0 t308).f5) a2).bind fun t310 => (some t310)) else (none)) else (none)) else (some false))
end Go.Proofs.Ytiimiogpiflkdaa.A
end

section
set_option linter.unusedVariables false
set_option linter.unusedSimpArgs false
namespace Go.Proofs.Ytiimiogpiflkdaa.L
open Go Go.RowKit Go.Proofs.Ytiimiogpiflkdaa.A Go.Proofs.YtiimiogpiflkdaaW.PrintWords
def metT (l : List Tm) (a b : Int) : Bool := decide (0 ≤ findT l a ∧ b ∈ (rd_T61 l (findT l a)).f5)
end Go.Proofs.Ytiimiogpiflkdaa.L
end

section
namespace Go.Proofs.Ytiimiogpiflkdaa.A
open Go.RowKit Go.Proofs.YtiimiogpiflkdaaW.PrintWords Go.Proofs.YtiimiogpiflkdaaW.PrintLast Go.Proofs.YtiimiogpiflkdaaW.PrintMore
def bvL : Nat → Nat → List Bool
  | 0, _ => []
  | n + 1, m => (m % 2 == 1) :: bvL n (m / 2)
def bv (n m : Nat) : Array Bool := (bvL n m).toArray
theorem Z1 {α : Type} {l : List α} {i : Nat} {a : α} : l.toArray.setIfInBounds i a = (l.set i a).toArray := List.setIfInBounds_toArray ..
theorem Z2 {α : Type} {x : α} {l : List α} {a : α} : (x :: l).set 0 a = a :: l := rfl
theorem Z3 {α : Type} {x : α} {l : List α} {i : Nat} {a : α} : (x :: l).set (i + 1) a = x :: l.set i a := rfl
section
variable {P : Program} {ops : Array Oper} {Q : Exit → Act → World → Prop} {S : World → Prop} {ds : List Nat} {T : Bool × List (List Nat × List Nat)} {B : List Nat}
end
end Go.Proofs.Ytiimiogpiflkdaa.A
end

section
namespace Go.Proofs.Ytiimiogpiflkdaa.A
open Go.RowKit Go.Proofs.YtiimiogpiflkdaaW.PrintWords Go.Proofs.YtiimiogpiflkdaaW.PrintLast Go.Proofs.YtiimiogpiflkdaaW.PrintMore
attribute [local go_sem] max2_int min2_int max_two min_two max_three min_three max_four min_four   -- for this text's walks alone
set_option linter.unusedVariables false
set_option linter.unusedSimpArgs false
def spec_MayMeet.f (k : Nat) (l0 : List (S61)) (a1 : Int) (a2 : Int) : Option (Bool) := (spec_FindTeam.f k l0 a1).bind fun t242 => ((spec_FindTeam.f k l0 a2).bind fun t243 => ((spec_AreTeams.f k l0).bind fun t244 => (if t244 = true then (if t242 ≥ 0 then (if t243 ≥ 0 then (if t242 = t243 then (some false) else (if 0 ≤ t242 then (if t242 < (l0.length : Int) then (if 0 ≤ t243 then (if t243 < (l0.length : Int) then (if ((rd_T61 l0 t242).f1) = ((rd_T61 l0 t243).f1) then (some false) else ((spec_HaveMet.f k l0 a1 a2).bind fun t247 => (some (!t247)))) else (none)) else (none)) else (none)) else (none))) else (some false)) else (some false)) else (some false))))
def spec_MayMeet.T3 : Bool × List (List Nat × List Nat) := (true, [([], []), ([0], [0]), ([1, 1], [1]), ([2], [2]), ([3, 2], [2, 3]), ([2, 4], [2, 4]), ([5, 2], [5]), ([6], [6]), ([7, 6], [6, 7]), ([6, 8], [6, 8]), ([9, 6], [9]), ([10], [10]), ([10], [10]), ([11, 12, 10], [10, 11, 12]), ([10, 13], [10, 13]), ([14, 10], [14]), ([15], [15]), ([15], [15]), ([16, 17, 15], [15, 16, 17]), ([18, 15], [15, 18]), ([19, 15], [15, 19]), ([15], [15]), ([15], [15]), ([21, 22, 15], [15, 21, 22]), ([23, 15], [15, 23]), ([24, 15], [15, 24]), ([20, 25, 15], [15, 20, 25]), ([15, 26], [15, 26]), ([27, 15], [27]), ([28], [28]), ([28], [28]), ([28], [28]), ([29, 30, 31, 28, 28], [28, 29, 30, 31]), ([32, 28], [28, 32]), ([28, 33], [28, 33]), ([34, 32, 0, 1, 2, 3, 4, 5, 6, 7, 8, 9, 10, 11, 12, 13, 14, 15, 16, 17, 18, 19, 20, 21, 22, 23, 24, 25, 26, 27, 28, 29, 30, 31, 32, 33, 34], [34])])
def spec_MayMeet.B3 : List Nat := [0, 1, 3, 7, 15, 31, 63, 127, 255, 511, 1023, 2047, 2047, 8191, 16383, 32767, 65535, 65535, 262143, 524287, 1048575, 65535, 65535, 6356991, 14745599, 31522815, 67108863, 134217727, 268435455, 536870911, 536870911, 536870911, 4294967295, 8589934591, 17179869183, 34359738367]
end Go.Proofs.Ytiimiogpiflkdaa.A
end

section
namespace Go.Proofs.Ytiimiogpiflkdaa.A
open Go.RowKit Go.Proofs.YtiimiogpiflkdaaW.PrintWords Go.Proofs.YtiimiogpiflkdaaW.PrintLast Go.Proofs.YtiimiogpiflkdaaW.PrintMore
attribute [local go_sem] max2_int min2_int max_two min_two max_three min_three max_four min_four   -- for this text's walks alone
set_option linter.unusedVariables false
set_option linter.unusedSimpArgs false
def impl_MayMeet.f (k : Nat) (l0 : List (S61)) (a1 : Int) (a2 : Int) : Option (Bool) := (impl_FindTeam.f l0 a1).bind fun t311 => ((impl_FindTeam.f l0 a2).bind fun t312 => ((impl_AreTeams.f k l0).bind fun t313 => (if t313 = true then (if t311 ≥ 0 then (if t312 ≥ 0 then (if t311 = t312 then (some false) else (if 0 ≤ t311 then (if t311 < (l0.length : Int) then (if 0 ≤ t312 then (if t312 < (l0.length : Int) then (if ((rd_T61 l0 t311).f1) = ((rd_T61 l0 t312).f1) then (some false) else ((impl_HaveMet.f k l0 a1 a2).bind fun t316 => (some (!t316)))) else (none)) else (none)) else (none)) else (none))) else (some false)) else (some false)) else (some false))))
def impl_MayMeet.T2 : Bool × List (List Nat × List Nat) := (true, [([], []), ([0], [0]), ([1, 1], [1]), ([2], [2]), ([3, 2], [2, 3]), ([2, 4], [2, 4]), ([5, 2], [5]), ([6], [6]), ([7, 6], [6, 7]), ([6, 8], [6, 8]), ([9, 6], [9]), ([10], [10]), ([10], [10]), ([11, 12, 10], [10, 11, 12]), ([10, 13], [10, 13]), ([14, 10], [14]), ([15], [15]), ([15], [15]), ([16, 17, 15], [15, 16, 17]), ([18, 15], [15, 18]), ([19, 15], [15, 19]), ([15], [15]), ([15], [15]), ([21, 22, 15], [15, 21, 22]), ([23, 15], [15, 23]), ([24, 15], [15, 24]), ([20, 25, 15], [15, 20, 25]), ([15, 26], [15, 26]), ([27, 15], [27]), ([28], [28]), ([28], [28]), ([28], [28]), ([29, 30, 31, 28, 28], [28, 29, 30, 31]), ([32, 28], [28, 32]), ([28, 33], [28, 33]), ([34, 32, 0, 1, 2, 3, 4, 5, 6, 7, 8, 9, 10, 11, 12, 13, 14, 15, 16, 17, 18, 19, 20, 21, 22, 23, 24, 25, 26, 27, 28, 29, 30, 31, 32, 33, 34], [34])])
def impl_MayMeet.B2 : List Nat := [0, 1, 3, 7, 15, 31, 63, 127, 255, 511, 1023, 2047, 2047, 8191, 16383, 32767, 65535, 65535, 262143, 524287, 1048575, 65535, 65535, 6356991, 14745599, 31522815, 67108863, 134217727, 268435455, 536870911, 536870911, 536870911, 4294967295, 8589934591, 17179869183, 34359738367]
end Go.Proofs.Ytiimiogpiflkdaa.A
end

section
set_option linter.unusedVariables false
set_option linter.unusedSimpArgs false
namespace Go.Proofs.Ytiimiogpiflkdaa.L
open Go Go.RowKit Go.Proofs.Ytiimiogpiflkdaa.A Go.Proofs.YtiimiogpiflkdaaW.PrintWords
def mayT (l : List Tm) (a b : Int) : Bool :=
  areT l && decide (0 ≤ findT l a) && decide (0 ≤ findT l b) && decide (findT l a ≠ findT l b) && decide ((rdT l (findT l a)).f1 ≠ (rdT l (findT l b)).f1) && !metT l a b
end Go.Proofs.Ytiimiogpiflkdaa.L
end

section
namespace Go.Proofs
open Go.Shelf
def Try.sortT_ren : Go.Shelf.Ren := ⟨fun | 6 => 69 | 15 => 86 | 14 => 85 | 28 => 100 | 29 => 101 | 20 => 92 | 21 => 93 | 22 => 94 | 23 => 95 | 24 => 96 | 25 => 97 | 26 => 98 | 27 => 99 | 46 => 103 | 47 => 104 | 48 => 105 | 49 => 106 | 50 => 107 | 57 => 108 | n => n, fun | 22 => 25 | 24 => 61 | 25 => 77 | 3 => 3 | 39 => 87 | 0 => 0 | 53 => 102 | 55 => 104 | 4 => 4 | 46 => 95 | 45 => 94 | 50 => 99 | 5 => 5 | 9 => 9 | 66 => 107 | 70 => 111 | 76 => 113 | 77 => 114 | n => n, fun | n => n⟩
def Try.lays125_ren : Go.Shelf.Ren := ⟨fun | 125 => 86 | 128 => 100 | 129 => 101 | n => n, fun | 46 => 87 | 3 => 3 | 51 => 102 | 53 => 104 | 4 => 4 | 5 => 5 | 9 => 9 | n => n, fun | n => n⟩
end Go.Proofs
end

section
set_option linter.unusedVariables false
set_option linter.unusedSimpArgs false
namespace Go.Proofs.Ytiimiogpiflkdaa.A
open Go.RowKit Go.Proofs.YtiimiogpiflkdaaW.PrintWords Go.Proofs.YtiimiogpiflkdaaW.PrintLast Go.Proofs.YtiimiogpiflkdaaW.PrintMore Go.Shelf Go.Sort
def cmpC (x y : Int) : Int := if x < y then -1 else if y < x then 1 else 0
def orC (a b c : Int) : Int := if a ≠ 0 then a else if b ≠ 0 then b else c
end Go.Proofs.Ytiimiogpiflkdaa.A
end

section
set_option linter.unusedVariables false
set_option linter.unusedSimpArgs false
namespace Go.Proofs.Ytiimiogpiflkdaa.A
open Go.RowKit Go.Proofs.YtiimiogpiflkdaaW.PrintWords Go.Proofs.YtiimiogpiflkdaaW.PrintLast Go.Proofs.YtiimiogpiflkdaaW.PrintMore Go.Shelf Go.Sort
structure TmA where
  f0 : Int
  f1 : Int
  f2 : Int
  f3 : Int
  f4 : Int
  A : Option Addr
  n : Nat
  c : Nat
  deriving Inhabited
def TmA.cells (x : TmA) : List Value := [.int .i64 x.f0, .int .i64 x.f1, .int .i64 x.f2, .int .i64 x.f3, .int .i64 x.f4, .slice x.A x.n x.c]
def cmpT (x y : TmA) : Int := orC (cmpC y.f2 x.f2) (cmpC y.f3 x.f3) (cmpC x.f0 y.f0)
end Go.Proofs.Ytiimiogpiflkdaa.A
end

section
set_option linter.unusedVariables false
set_option linter.unusedSimpArgs false
namespace Go.Proofs.Ytiimiogpiflkdaa.A
open Go.RowKit Go.Proofs.YtiimiogpiflkdaaW.PrintWords Go.Proofs.YtiimiogpiflkdaaW.PrintLast Go.Proofs.YtiimiogpiflkdaaW.PrintMore Go.Shelf Go.Sort
abbrev K3 := Int × Int × Int
def befK (u v : K3) : Bool := decide (v.1 < u.1) || (decide (u.1 = v.1) && (decide (v.2.1 < u.2.1) || (decide (u.2.1 = v.2.1) && decide (u.2.2 < v.2.2))))
def keyA (x : TmA) : K3 := (x.f2, x.f3, x.f0)
def keyS (x : S61) : K3 := (x.f2, x.f3, x.f0)
def befB (u v : S61) : Bool := befK (keyS u) (keyS v)
def ordT (l : List S61) : List S61 := l.mergeSort (fun u v => !befB v u)
end Go.Proofs.Ytiimiogpiflkdaa.A
end

section
set_option linter.unusedVariables false
set_option linter.unusedSimpArgs false
namespace Go.Proofs.Ytiimiogpiflkdaa.A
open Go.RowKit Go.Proofs.YtiimiogpiflkdaaW.PrintWords Go.Proofs.YtiimiogpiflkdaaW.PrintLast Go.Proofs.YtiimiogpiflkdaaW.PrintMore Go.Shelf Go.Sort
end Go.Proofs.Ytiimiogpiflkdaa.A
end
