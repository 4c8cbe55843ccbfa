-- Printed for this claim by a program of the session's (the kit's print, with contracts of our own taken in). Lean checks it.
import Derived.Test.YtcffappipgapbaaA0
import Derived.Test.YtcffappipgapbaaA28
import Derived.Test.YtcffappipgapbaaA29
import Derived.Test.YtcffappipgapbaaA45
import Derived.Test.YtcffappipgapbaaA46
-- squeezed
namespace Go.Proofs.Ytcffappipgapbaa.A
open Go.RowKit Go.Proofs.YtcffappipgapbaaW.PrintWords Go.Proofs.YtcffappipgapbaaW.PrintLast Go.Proofs.YtcffappipgapbaaW.PrintMore
attribute [local go_sem] max2_int min2_int max_two min_two max_three min_three max_four min_four   -- for this text's walks alone
set_option linter.unusedVariables false
set_option linter.unusedSimpArgs false

/-! ### impl_Decision: function 45 -/
mutual
def impl_Decision.j0 : Nat → List (S63) → Bool → Option (Int)
  | 0, _, _ => none
  | k + 1, x0, x12 => if x12 = true then (some 0) else ((impl_VotesFor.f k x0 1).bind fun t419 => ((impl_VotesFor.f k x0 2).bind fun t420 => ((impl_SumFor.f k x0 1).bind fun t421 => ((impl_SumFor.f k x0 2).bind fun t422 => (if (wrap64 (t419 - t420)) > 0 then (impl_Decision.j1 k x0 (wrap64 (t419 - t420)) (wrap64 (t421 - t422)) true) else (if (wrap64 (t419 - t420)) = 0 then (impl_Decision.j1 k x0 (wrap64 (t419 - t420)) (wrap64 (t421 - t422)) (decide ((wrap64 (t421 - t422)) > 0))) else (impl_Decision.j1 k x0 (wrap64 (t419 - t420)) (wrap64 (t421 - t422)) false)))))))
def impl_Decision.j1 : Nat → List (S63) → Int → Int → Bool → Option (Int)
  | 0, _, _, _, _ => none
  | k + 1, x0, x3, x4, x23 => if x23 = true then (some 1) else (if x3 < 0 then (some 2) else (if x4 < 0 then (some 2) else (if 0 < (x0.length : Int) then ((impl_teamOf.f ((rd_T63 x0 0).f0) ((rd_T63 x0 0).f1) ((rd_T63 x0 0).f2)).bind fun t424 => (some t424)) else (none))))
end
def impl_Decision.f (k : Nat) (l0 : List (S63)) : Option (Int) := if (l0.length : Int) = 0 then (impl_Decision.j0 k l0 true) else ((impl_AreBallots.f k l0).bind fun t418 => (impl_Decision.j0 k l0 (!t418)))
theorem impl_Decision.mono_l : ∀ k, (∀ y0 y1, LeO (impl_Decision.j0 k y0 y1) (impl_Decision.j0 (k + 1) y0 y1)) ∧ (∀ y0 y1 y2 y3, LeO (impl_Decision.j1 k y0 y1 y2 y3) (impl_Decision.j1 (k + 1) y0 y1 y2 y3))
  | 0 => ⟨fun _ _ r h => by simp [impl_Decision.j0] at h, fun _ _ _ _ r h => by simp [impl_Decision.j1] at h⟩
  | k + 1 => by
    obtain ⟨ih0, ih1⟩ := impl_Decision.mono_l k
    refine ⟨?_, ?_⟩
    · intro y0 y1
      unfold impl_Decision.j0
      repeat' first
      | (with_reducible exact ih0 _ _)
      | (with_reducible exact ih1 _ _ _ _)
      | (with_reducible exact impl_AreBallots.mono _ _)
      | (with_reducible exact impl_SumFor.mono _ _ _)
      | (with_reducible exact impl_VotesFor.mono _ _ _)
      | (with_reducible exact LeO.refl _)
      | (with_reducible exact LeO.none _)
      | (with_reducible refine LeO.ite ?_ ?_)
      | (with_reducible refine LeO.bind ?_ (fun _ => ?_))
      | exact ih0 _ _
      | exact ih1 _ _ _ _
      | exact impl_AreBallots.mono _ _
      | exact impl_SumFor.mono _ _ _
      | exact impl_VotesFor.mono _ _ _
      | exact LeO.none _
      | refine LeO.ite ?_ ?_
      | refine LeO.bind ?_ (fun _ => ?_)
    · intro y0 y1 y2 y3
      unfold impl_Decision.j1
      repeat' first
      | (with_reducible exact ih0 _ _)
      | (with_reducible exact ih1 _ _ _ _)
      | (with_reducible exact impl_AreBallots.mono _ _)
      | (with_reducible exact impl_SumFor.mono _ _ _)
      | (with_reducible exact impl_VotesFor.mono _ _ _)
      | (with_reducible exact LeO.refl _)
      | (with_reducible exact LeO.none _)
      | (with_reducible refine LeO.ite ?_ ?_)
      | (with_reducible refine LeO.bind ?_ (fun _ => ?_))
      | exact ih0 _ _
      | exact ih1 _ _ _ _
      | exact impl_AreBallots.mono _ _
      | exact impl_SumFor.mono _ _ _
      | exact impl_VotesFor.mono _ _ _
      | exact LeO.none _
      | refine LeO.ite ?_ ?_
      | refine LeO.bind ?_ (fun _ => ?_)
theorem impl_Decision.mono : ∀ a0 k, LeO (impl_Decision.f k a0) (impl_Decision.f (k + 1) a0) := by
  intro a0 k
  obtain ⟨ih0, ih1⟩ := impl_Decision.mono_l k
  unfold impl_Decision.f
  repeat' first
      | (with_reducible exact ih0 _ _)
      | (with_reducible exact ih1 _ _ _ _)
      | (with_reducible exact impl_AreBallots.mono _ _)
      | (with_reducible exact impl_SumFor.mono _ _ _)
      | (with_reducible exact impl_VotesFor.mono _ _ _)
      | (with_reducible exact LeO.refl _)
      | (with_reducible exact LeO.none _)
      | (with_reducible refine LeO.ite ?_ ?_)
      | (with_reducible refine LeO.bind ?_ (fun _ => ?_))
      | exact ih0 _ _
      | exact ih1 _ _ _ _
      | exact impl_AreBallots.mono _ _
      | exact impl_SumFor.mono _ _ _
      | exact impl_VotesFor.mono _ _ _
      | exact LeO.none _
      | refine LeO.ite ?_ ?_
      | refine LeO.bind ?_ (fun _ => ?_)
set_option maxHeartbeats 8000000 in
set_option maxRecDepth 100000 in
theorem impl_Decision.calls (k : Nat) (A0 : Option Addr) (c0 : Nat) (l0 : List (S63)) (r : Int) (w : World) (hr0 : Kd.C k63 w A0 l0.length l0) (hc0 : l0.length ≤ c0) (h : impl_Decision.f k l0 = some r) :
  Calls Try.prog 45 #[.slice A0 l0.length c0] w fun e w' => e = .returned (.int .i64 r) ∧ Below w.heap.size w w' := by
 have hu63 := Try.underlying63
 have HR0 := Aside0.mk hr0
 have HC0 := Aside0.mk hc0
 clear hr0 hc0
 have HB := Aside0.mk (Below.refl w.heap.size w)
 have H : (if (l0.length : Int) = 0 then (impl_Decision.j0 k l0 true) else ((impl_AreBallots.f k l0).bind fun t418 => (impl_Decision.j0 k l0 (!t418)))) = some r := h
 clear h
 have HC2 := Aside0.mk H
 clear H
 go_enter Try.func45, Try.ntmps45
 go_upto_region 1 with (fail)
 go_cut [12] (fun v12 wc => ∃ (kq : Nat) (x12_1 : Bool), v12 = .bool x12_1 ∧ Aside0 (impl_Decision.j0 kq l0 x12_1 = some r) ∧ Aside0 (kq ≤ k) ∧ Aside0 (Below w.heap.size w wc))
 case first =>
  have H := HC2.out
  clear HC2
  by_cases c3 : (l0.length : Int) = 0
  ·
   rw [if_pos c3] at H
   have c3b0 : ((l0.length : Int) == 0) = true := beq_iff_eq.mpr c3
   have c3b1 : ((l0.length : Int) != 0) = false := bne_eq_false_iff_eq.mpr c3
   clear c3
   (first | rw [c3b0] | (simp only [i64_w, i32_w]; rw [c3b0]) | skip)
   have H' := Aside0.mk H
   clear H
   go_wp2
   go_meet
   case rel => exact ⟨_, (true), (by first | rfl | (simp; done) | (simp [*]; done)), H', ⟨by first | omega | exact Nat.le_refl _⟩, ⟨by repeat (first | (with_reducible first | exact HB.out | apply below_alloc | apply pw_below_drewN | apply below_drew1) | exact HB.out)⟩⟩
  ·
   rw [if_neg c3] at H
   have c3b0 : ((l0.length : Int) == 0) = false := beq_eq_false_iff_ne.mpr c3
   have c3b1 : ((l0.length : Int) != 0) = true := bne_iff_ne.mpr c3
   have c3b2 : ¬ (l0 = []) := fun h_ => c3 (by rw [h_]; rfl)
   (first | rw [c3b0] | (simp only [i64_w, i32_w]; rw [c3b0]) | skip)
   replace H := Option.bind_eq_some_iff.mp H
   obtain ⟨t418, A40, H⟩ := H
   replace H : (impl_Decision.j0 k l0 (!t418)) = some r := H
   have A4 := Aside0.mk A40
   clear A40
   have H' := Aside0.mk H
   clear H
   go_wp2_with (first | (go_at_call 67; (with_reducible refine (impl_AreBallots.calls k _ _ l0 t418 _ ?side1 ?side2 A4.out).mono ?_); (case side1 => repeat (first | exact (Kd.C_below HR0.out HB.out) | (with_reducible refine Kd.C_alloc ?_ _) | (with_reducible refine Kd.C_drewN ?_ _) | (with_reducible refine Kd.C_drew ?_))); (case side2 => exact HC0.out); rintro e w5 ⟨rfl, hb⟩; have n0_ := Aside0.mk (below_step (by repeat (first | (with_reducible first | exact HB.out | apply below_alloc | apply pw_below_drewN | apply below_drew1) | exact HB.out)) hb); clear HB; have HB := n0_; clear n0_; (try clear hb); (try clear hb2); (try clear hk); (try clear hi)))
   go_meet
   case rel => exact ⟨_, (!t418), (by first | rfl | (simp; done) | (simp [*]; done)), H', ⟨by first | omega | exact Nat.le_refl _⟩, ⟨by repeat (first | (with_reducible first | exact HB.out | apply below_alloc | apply pw_below_drewN | apply below_drew1) | exact HB.out)⟩⟩
 case rest =>
  clear HC2
  try clear p2
  try clear c3
  try clear c3b0
  try clear c3b1
  try clear c3b2
  try clear c4
  obtain ⟨kq, x12_1, rfl, HA, HJ1, HB⟩ := hcut
  cases kq with
  | zero => exact absurd HA.out (by simp [impl_Decision.j0])
  | succ kj1 =>
   have H := HA.out
   clear HA
   simp only [impl_Decision.j0] at H
   by_cases c6 : x12_1 = true
   ·
    subst c6
    have H1 : (some 0) = some r := by rw [if_pos rfl] at H; exact H
    clear H
    have H := H1
    clear H1
    obtain rfl := Option.some.inj H
    go_wp2
    go_ret
    exact ⟨by first | rfl | (simp [errW_none, errW_some] <;> rfl) | (simp [*, errW_none, errW_some] <;> rfl), by repeat (first | (with_reducible first | exact HB.out | apply below_alloc | apply pw_below_drewN | apply below_drew1) | exact HB.out)⟩
   ·
    replace c6 := Bool.eq_false_iff.mpr c6
    subst c6
    have H1 : ((impl_VotesFor.f kj1 l0 1).bind fun t419 => ((impl_VotesFor.f kj1 l0 2).bind fun t420 => ((impl_SumFor.f kj1 l0 1).bind fun t421 => ((impl_SumFor.f kj1 l0 2).bind fun t422 => (if (wrap64 (t419 - t420)) > 0 then (impl_Decision.j1 kj1 l0 (wrap64 (t419 - t420)) (wrap64 (t421 - t422)) true) else (if (wrap64 (t419 - t420)) = 0 then (impl_Decision.j1 kj1 l0 (wrap64 (t419 - t420)) (wrap64 (t421 - t422)) (decide ((wrap64 (t421 - t422)) > 0))) else (impl_Decision.j1 kj1 l0 (wrap64 (t419 - t420)) (wrap64 (t421 - t422)) false))))))) = some r := by rw [if_neg (show ¬ (false = true) by decide)] at H; exact H
    clear H
    have H := H1
    clear H1
    replace H := Option.bind_eq_some_iff.mp H
    obtain ⟨t419, A70, H⟩ := H
    replace H : ((impl_VotesFor.f kj1 l0 2).bind fun t420 => ((impl_SumFor.f kj1 l0 1).bind fun t421 => ((impl_SumFor.f kj1 l0 2).bind fun t422 => (if (wrap64 (t419 - t420)) > 0 then (impl_Decision.j1 kj1 l0 (wrap64 (t419 - t420)) (wrap64 (t421 - t422)) true) else (if (wrap64 (t419 - t420)) = 0 then (impl_Decision.j1 kj1 l0 (wrap64 (t419 - t420)) (wrap64 (t421 - t422)) (decide ((wrap64 (t421 - t422)) > 0))) else (impl_Decision.j1 kj1 l0 (wrap64 (t419 - t420)) (wrap64 (t421 - t422)) false)))))) = some r := H
    have A7 := Aside0.mk A70
    clear A70
    replace H := Option.bind_eq_some_iff.mp H
    obtain ⟨t420, A80, H⟩ := H
    replace H : ((impl_SumFor.f kj1 l0 1).bind fun t421 => ((impl_SumFor.f kj1 l0 2).bind fun t422 => (if (wrap64 (t419 - t420)) > 0 then (impl_Decision.j1 kj1 l0 (wrap64 (t419 - t420)) (wrap64 (t421 - t422)) true) else (if (wrap64 (t419 - t420)) = 0 then (impl_Decision.j1 kj1 l0 (wrap64 (t419 - t420)) (wrap64 (t421 - t422)) (decide ((wrap64 (t421 - t422)) > 0))) else (impl_Decision.j1 kj1 l0 (wrap64 (t419 - t420)) (wrap64 (t421 - t422)) false))))) = some r := H
    have A8 := Aside0.mk A80
    clear A80
    replace H := Option.bind_eq_some_iff.mp H
    obtain ⟨t421, A90, H⟩ := H
    replace H : ((impl_SumFor.f kj1 l0 2).bind fun t422 => (if (wrap64 (t419 - t420)) > 0 then (impl_Decision.j1 kj1 l0 (wrap64 (t419 - t420)) (wrap64 (t421 - t422)) true) else (if (wrap64 (t419 - t420)) = 0 then (impl_Decision.j1 kj1 l0 (wrap64 (t419 - t420)) (wrap64 (t421 - t422)) (decide ((wrap64 (t421 - t422)) > 0))) else (impl_Decision.j1 kj1 l0 (wrap64 (t419 - t420)) (wrap64 (t421 - t422)) false)))) = some r := H
    have A9 := Aside0.mk A90
    clear A90
    replace H := Option.bind_eq_some_iff.mp H
    obtain ⟨t422, A100, H⟩ := H
    replace H : (if (wrap64 (t419 - t420)) > 0 then (impl_Decision.j1 kj1 l0 (wrap64 (t419 - t420)) (wrap64 (t421 - t422)) true) else (if (wrap64 (t419 - t420)) = 0 then (impl_Decision.j1 kj1 l0 (wrap64 (t419 - t420)) (wrap64 (t421 - t422)) (decide ((wrap64 (t421 - t422)) > 0))) else (impl_Decision.j1 kj1 l0 (wrap64 (t419 - t420)) (wrap64 (t421 - t422)) false))) = some r := H
    have A10 := Aside0.mk A100
    clear A100
    have HC11 := Aside0.mk H
    clear H
    go_upto_region 4 with (first | ((with_reducible refine gate_callee (f := 34) rfl ?_); refine goesL_ (some 14) rfl rfl Try.func34 (by kernel_rfl) rfl #[.slice A0 l0.length c0, .int .i64 1] rfl (by (try simp only [List.map_toArray, List.map_cons, List.map_nil]); first | done | rfl | (simp only [List.length_drop, List.length_take]; rfl)) ?_; (with_reducible refine (impl_VotesFor.calls kj1 _ _ l0 1 t419 _ ?side1 ?side2 A7.out).mono ?_); (case side1 => repeat (first | exact (Kd.C_below HR0.out HB.out) | (with_reducible refine Kd.C_alloc ?_ _) | (with_reducible refine Kd.C_drewN ?_ _) | (with_reducible refine Kd.C_drew ?_))); (case side2 => exact HC0.out); rintro e w12 ⟨rfl, hb⟩; refine ⟨_, rfl, ?_⟩; have n0_ := Aside0.mk (below_step (by repeat (first | (with_reducible first | exact HB.out | apply below_alloc | apply pw_below_drewN | apply below_drew1) | exact HB.out)) hb); clear HB; have HB := n0_; clear n0_; (try clear hb); (try clear hb2); (try clear hk); (try clear hi)) | ((with_reducible refine gate_callee (f := 34) rfl ?_); refine goesL_ (some 16) rfl rfl Try.func34 (by kernel_rfl) rfl #[.slice A0 l0.length c0, .int .i64 2] rfl (by (try simp only [List.map_toArray, List.map_cons, List.map_nil]); first | done | rfl | (simp only [List.length_drop, List.length_take]; rfl)) ?_; (with_reducible refine (impl_VotesFor.calls kj1 _ _ l0 2 t420 _ ?side1 ?side2 A8.out).mono ?_); (case side1 => repeat (first | exact (Kd.C_below HR0.out HB.out) | (with_reducible refine Kd.C_alloc ?_ _) | (with_reducible refine Kd.C_drewN ?_ _) | (with_reducible refine Kd.C_drew ?_))); (case side2 => exact HC0.out); rintro e w13 ⟨rfl, hb⟩; refine ⟨_, rfl, ?_⟩; have n0_ := Aside0.mk (below_step (by repeat (first | (with_reducible first | exact HB.out | apply below_alloc | apply pw_below_drewN | apply below_drew1) | exact HB.out)) hb); clear HB; have HB := n0_; clear n0_; (try clear hb); (try clear hb2); (try clear hk); (try clear hi)) | ((with_reducible refine gate_callee (f := 25) rfl ?_); refine goesL_ (some 19) rfl rfl Try.func25 (by kernel_rfl) rfl #[.slice A0 l0.length c0, .int .i64 1] rfl (by (try simp only [List.map_toArray, List.map_cons, List.map_nil]); first | done | rfl | (simp only [List.length_drop, List.length_take]; rfl)) ?_; (with_reducible refine (impl_SumFor.calls kj1 _ _ l0 1 t421 _ ?side1 ?side2 A9.out).mono ?_); (case side1 => repeat (first | exact (Kd.C_below HR0.out HB.out) | (with_reducible refine Kd.C_alloc ?_ _) | (with_reducible refine Kd.C_drewN ?_ _) | (with_reducible refine Kd.C_drew ?_))); (case side2 => exact HC0.out); rintro e w14 ⟨rfl, hb⟩; refine ⟨_, rfl, ?_⟩; have n0_ := Aside0.mk (below_step (by repeat (first | (with_reducible first | exact HB.out | apply below_alloc | apply pw_below_drewN | apply below_drew1) | exact HB.out)) hb); clear HB; have HB := n0_; clear n0_; (try clear hb); (try clear hb2); (try clear hk); (try clear hi)) | ((with_reducible refine gate_callee (f := 25) rfl ?_); refine goesL_ (some 21) rfl rfl Try.func25 (by kernel_rfl) rfl #[.slice A0 l0.length c0, .int .i64 2] rfl (by (try simp only [List.map_toArray, List.map_cons, List.map_nil]); first | done | rfl | (simp only [List.length_drop, List.length_take]; rfl)) ?_; (with_reducible refine (impl_SumFor.calls kj1 _ _ l0 2 t422 _ ?side1 ?side2 A10.out).mono ?_); (case side1 => repeat (first | exact (Kd.C_below HR0.out HB.out) | (with_reducible refine Kd.C_alloc ?_ _) | (with_reducible refine Kd.C_drewN ?_ _) | (with_reducible refine Kd.C_drew ?_))); (case side2 => exact HC0.out); rintro e w15 ⟨rfl, hb⟩; refine ⟨_, rfl, ?_⟩; have n0_ := Aside0.mk (below_step (by repeat (first | (with_reducible first | exact HB.out | apply below_alloc | apply pw_below_drewN | apply below_drew1) | exact HB.out)) hb); clear HB; have HB := n0_; clear n0_; (try clear hb); (try clear hb2); (try clear hk); (try clear hi)))
    (try simp only [Act.put, List.setIfInBounds_toArray, List.set_cons_zero, List.set_cons_succ])
    go_cut [23] (fun v23 wc => ∃ (kq : Nat) (x23_10 : Bool), v23 = .bool x23_10 ∧ Aside0 (impl_Decision.j1 kq l0 (wrap64 (t419 - t420)) (wrap64 (t421 - t422)) x23_10 = some r) ∧ Aside0 (kq ≤ kj1) ∧ Aside0 (Below w.heap.size w wc))
    case first =>
     have H := HC11.out
     clear HC11
     by_cases c16 : (wrap64 (t419 - t420)) > 0
     ·
      rw [if_pos c16] at H
      have c16b0 : decide (0 < (wrap64 (t419 - t420))) = true := decide_eq_true c16
      clear c16
      (first | rw [c16b0] | (simp only [i64_w, i32_w]; rw [c16b0]) | skip)
      have H' := Aside0.mk H
      clear H
      go_wp2
      go_meet
      case rel => exact ⟨_, (true), (by first | rfl | (simp; done) | (simp [*]; done)), H', ⟨by have := HJ1.out; first | omega | exact Nat.le_refl _⟩, ⟨by repeat (first | (with_reducible first | exact HB.out | apply below_alloc | apply pw_below_drewN | apply below_drew1) | exact HB.out)⟩⟩
     ·
      rw [if_neg c16] at H
      have c16b0 : decide (0 < (wrap64 (t419 - t420))) = false := decide_eq_false c16
      clear c16
      (first | rw [c16b0] | (simp only [i64_w, i32_w]; rw [c16b0]) | skip)
      by_cases c17 : (wrap64 (t419 - t420)) = 0
      ·
       rw [if_pos c17] at H
       have c17b0 : ((wrap64 (t419 - t420)) == 0) = true := beq_iff_eq.mpr c17
       have c17b1 : ((wrap64 (t419 - t420)) != 0) = false := bne_eq_false_iff_eq.mpr c17
       clear c17
       have H' := Aside0.mk H
       clear H
       go_wp2
       go_meet
       case rel => exact ⟨_, (decide ((wrap64 (t421 - t422)) > 0)), (by first | rfl | (simp; done) | (simp [*]; done)), H', ⟨by have := HJ1.out; first | omega | exact Nat.le_refl _⟩, ⟨by repeat (first | (with_reducible first | exact HB.out | apply below_alloc | apply pw_below_drewN | apply below_drew1) | exact HB.out)⟩⟩
      ·
       rw [if_neg c17] at H
       have c17b0 : ((wrap64 (t419 - t420)) == 0) = false := beq_eq_false_iff_ne.mpr c17
       have c17b1 : ((wrap64 (t419 - t420)) != 0) = true := bne_iff_ne.mpr c17
       have H' := Aside0.mk H
       clear H
       go_wp2
       go_meet
       case rel => exact ⟨_, (false), (by first | rfl | (simp; done) | (simp [*]; done)), H', ⟨by have := HJ1.out; first | omega | exact Nat.le_refl _⟩, ⟨by repeat (first | (with_reducible first | exact HB.out | apply below_alloc | apply pw_below_drewN | apply below_drew1) | exact HB.out)⟩⟩
    case rest =>
     clear HC11
     try clear c1
     try clear c2
     try clear p2
     try clear c3
     try clear c3b0
     try clear c3b1
     try clear c3b2
     try clear c4
     try clear c6
     try clear p6
     try clear c16
     try clear c16b0
     try clear c17
     try clear c17b0
     try clear c17b1
     try clear p2
     obtain ⟨kq, x23_10, rfl, HA, HJ10, HB⟩ := hcut
     cases kq with
     | zero => exact absurd HA.out (by simp [impl_Decision.j1])
     | succ kj10 =>
      have H := HA.out
      clear HA
      simp only [impl_Decision.j1] at H
      by_cases c18 : x23_10 = true
      ·
       subst c18
       have H1 : (some 1) = some r := by rw [if_pos rfl] at H; exact H
       clear H
       have H := H1
       clear H1
       obtain rfl := Option.some.inj H
       go_wp2
       go_ret
       exact ⟨by first | rfl | (simp [errW_none, errW_some] <;> rfl) | (simp [*, errW_none, errW_some] <;> rfl), by repeat (first | (with_reducible first | exact HB.out | apply below_alloc | apply pw_below_drewN | apply below_drew1) | exact HB.out)⟩
      ·
       replace c18 := Bool.eq_false_iff.mpr c18
       subst c18
       have H1 : (if (wrap64 (t419 - t420)) < 0 then (some 2) else (if (wrap64 (t421 - t422)) < 0 then (some 2) else (if 0 < (l0.length : Int) then ((impl_teamOf.f ((rd_T63 l0 0).f0) ((rd_T63 l0 0).f1) ((rd_T63 l0 0).f2)).bind fun t424 => (some t424)) else (none)))) = some r := by rw [if_neg (show ¬ (false = true) by decide)] at H; exact H
       clear H
       have H := H1
       clear H1
       by_cases c19 : (wrap64 (t419 - t420)) < 0
       ·
        rw [if_pos c19] at H
        have c19b0 : decide ((wrap64 (t419 - t420)) < 0) = true := decide_eq_true c19
        clear c19
        obtain rfl := Option.some.inj H
        go_wp2
        go_ret
        exact ⟨by first | rfl | (simp [errW_none, errW_some] <;> rfl) | (simp [*, errW_none, errW_some] <;> rfl), by repeat (first | (with_reducible first | exact HB.out | apply below_alloc | apply pw_below_drewN | apply below_drew1) | exact HB.out)⟩
       ·
        rw [if_neg c19] at H
        have c19b0 : decide ((wrap64 (t419 - t420)) < 0) = false := decide_eq_false c19
        clear c19
        by_cases c20 : (wrap64 (t421 - t422)) < 0
        ·
         rw [if_pos c20] at H
         have c20b0 : decide ((wrap64 (t421 - t422)) < 0) = true := decide_eq_true c20
         clear c20
         obtain rfl := Option.some.inj H
         go_wp2
         go_ret
         exact ⟨by first | rfl | (simp [errW_none, errW_some] <;> rfl) | (simp [*, errW_none, errW_some] <;> rfl), by repeat (first | (with_reducible first | exact HB.out | apply below_alloc | apply pw_below_drewN | apply below_drew1) | exact HB.out)⟩
        ·
         rw [if_neg c20] at H
         have c20b0 : decide ((wrap64 (t421 - t422)) < 0) = false := decide_eq_false c20
         clear c20
         by_cases c21 : 0 < (l0.length : Int)
         ·
          rw [if_pos c21] at H
          have c21b0 : decide (0 < (l0.length : Int)) = true := decide_eq_true c21
          have c21b1 : decide (0 < l0.length) = true := decide_eq_true (by omega)
          clear c21
          replace H := Option.bind_eq_some_iff.mp H
          obtain ⟨t424, A220, H⟩ := H
          replace H : (some t424) = some r := H
          have A22 := Aside0.mk A220
          clear A220
          obtain rfl := Option.some.inj H
          have p423 : 0 ≤ (0 : Int) := (by omega)
          have q423 : 0 < (l0.length : Int) := of_decide_eq_true (by first | (with_reducible assumption) | assumption)
          obtain ⟨ad423, e423, hx423_0, hx423_1, hx423_2⟩ := at_T63 HR0.out 0 p423 q423
          cases e423
          have qi423 : (0 < l0.length) = True := eq_true (by omega)
          (try rw [show ((0 : Int)).toNat = 0 from rfl] at hx423_0)
          (try rw [show 0 * 3 = 0 from rfl] at hx423_0)
          (try rw [Addr.add_zero'] at hx423_0)
          (try rw [show ((0 : Int)).toNat = 0 from rfl] at hx423_1)
          (try rw [show 0 * 3 = 0 from rfl] at hx423_1)
          (try rw [Addr.add_zero'] at hx423_1)
          (try rw [show ((0 : Int)).toNat = 0 from rfl] at hx423_2)
          (try rw [show 0 * 3 = 0 from rfl] at hx423_2)
          (try rw [Addr.add_zero'] at hx423_2)
          replace hx423_0 := (HB.out.cell (World.block_lt_of_cell? w _ hx423_0)).trans hx423_0
          replace hx423_1 := (HB.out.cell (World.block_lt_of_cell? w _ hx423_1)).trans hx423_1
          replace hx423_2 := (HB.out.cell (World.block_lt_of_cell? w _ hx423_2)).trans hx423_2
          replace p423 := eq_true p423
          replace q423 := eq_true q423
          go_wp2_with (first | ((with_reducible refine gate_callee (f := 73) rfl ?_); refine goesL_ (some 44) rfl rfl Try.func73 (by kernel_rfl) rfl #[.agg #[.int .i64 ((rd_T63 l0 0).f0), .int .i64 ((rd_T63 l0 0).f1), .int .i64 ((rd_T63 l0 0).f2)]] rfl (by (try simp only [List.map_toArray, List.map_cons, List.map_nil]); first | done | rfl | (simp only [List.length_drop, List.length_take]; rfl)) ?_; (with_reducible refine (impl_teamOf.calls ((rd_T63 l0 0).f0) ((rd_T63 l0 0).f1) ((rd_T63 l0 0).f2) t424 _ A22.out).mono ?_); rintro e w23 ⟨rfl, hb⟩; refine ⟨_, rfl, ?_⟩; have n0_ := Aside0.mk (below_step (by repeat (first | (with_reducible first | exact HB.out | apply below_alloc | apply pw_below_drewN | apply below_drew1) | exact HB.out)) hb); clear HB; have HB := n0_; clear n0_; (try clear hb); (try clear hb2); (try clear hk); (try clear hi)))
          go_ret
          exact ⟨by first | rfl | (simp [errW_none, errW_some] <;> rfl) | (simp [*, errW_none, errW_some] <;> rfl), by repeat (first | (with_reducible first | exact HB.out | apply below_alloc | apply pw_below_drewN | apply below_drew1) | exact HB.out)⟩
         ·
          rw [if_neg c21] at H
          exact absurd H (by simp)

end Go.Proofs.Ytcffappipgapbaa.A
