-- Printed for this claim by a program of the session's (the kit's print, with contracts of our own taken in). Lean checks it.
import Derived.Test.YtcffappipgapbaaA0
import Derived.Test.YtcffappipgapbaaA63
import Derived.Test.YtcffappipgapbaaA64
import Derived.Test.YtcffappipgapbaaA65
-- squeezed
namespace Go.Proofs.Ytcffappipgapbaa.A
open Go.RowKit Go.Proofs.YtcffappipgapbaaW.PrintWords Go.Proofs.YtcffappipgapbaaW.PrintLast Go.Proofs.YtcffappipgapbaaW.PrintMore
attribute [local go_sem] max2_int min2_int max_two min_two max_three min_three max_four min_four   -- for this text's walks alone
set_option linter.unusedVariables false
set_option linter.unusedSimpArgs false

/-! ### impl_HallWinner: function 42 -/
def impl_HallWinner.j0 : Nat → Int → Int → Bool → Option (Int)
  | 0, _, _, _ => none
  | k + 1, x3, x4, x18 => if x18 = true then (some 1) else (if x3 < 0 then (some 2) else (if x4 < 0 then (some 2) else (some 0)))
def impl_HallWinner.f (k : Nat) (l0 : List (S72)) : Option (Int) := (impl_AreHearers.f k l0).bind fun t388 => (if t388 = true then ((impl_Gain.f k l0 1).bind fun t389 => ((impl_Gain.f k l0 2).bind fun t390 => ((impl_afterOf.f k l0 1).bind fun t391 => ((impl_afterOf.f k l0 2).bind fun t392 => (if (wrap64 (t389 - t390)) > 0 then (impl_HallWinner.j0 k (wrap64 (t389 - t390)) (wrap64 (t391 - t392)) true) else (if (wrap64 (t389 - t390)) = 0 then (impl_HallWinner.j0 k (wrap64 (t389 - t390)) (wrap64 (t391 - t392)) (decide ((wrap64 (t391 - t392)) > 0))) else (impl_HallWinner.j0 k (wrap64 (t389 - t390)) (wrap64 (t391 - t392)) false))))))) else (some 0))
theorem impl_HallWinner.mono_l : ∀ k, (∀ y0 y1 y2, LeO (impl_HallWinner.j0 k y0 y1 y2) (impl_HallWinner.j0 (k + 1) y0 y1 y2))
  | 0 => fun _ _ _ r h => by simp [impl_HallWinner.j0] at h
  | k + 1 => by
    have ih0 := impl_HallWinner.mono_l k
    · intro y0 y1 y2
      unfold impl_HallWinner.j0
      repeat' first
      | (with_reducible exact ih0 _ _ _)
      | (with_reducible exact impl_AreHearers.mono _ _)
      | (with_reducible exact impl_Gain.mono _ _ _)
      | (with_reducible exact impl_afterOf.mono _ _ _)
      | (with_reducible exact LeO.refl _)
      | (with_reducible exact LeO.none _)
      | (with_reducible refine LeO.ite ?_ ?_)
      | (with_reducible refine LeO.bind ?_ (fun _ => ?_))
      | exact ih0 _ _ _
      | exact impl_AreHearers.mono _ _
      | exact impl_Gain.mono _ _ _
      | exact impl_afterOf.mono _ _ _
      | exact LeO.none _
      | refine LeO.ite ?_ ?_
      | refine LeO.bind ?_ (fun _ => ?_)
theorem impl_HallWinner.mono : ∀ a0 k, LeO (impl_HallWinner.f k a0) (impl_HallWinner.f (k + 1) a0) := by
  intro a0 k
  have ih0 := impl_HallWinner.mono_l k
  unfold impl_HallWinner.f
  repeat' first
      | (with_reducible exact ih0 _ _ _)
      | (with_reducible exact impl_AreHearers.mono _ _)
      | (with_reducible exact impl_Gain.mono _ _ _)
      | (with_reducible exact impl_afterOf.mono _ _ _)
      | (with_reducible exact LeO.refl _)
      | (with_reducible exact LeO.none _)
      | (with_reducible refine LeO.ite ?_ ?_)
      | (with_reducible refine LeO.bind ?_ (fun _ => ?_))
      | exact ih0 _ _ _
      | exact impl_AreHearers.mono _ _
      | exact impl_Gain.mono _ _ _
      | exact impl_afterOf.mono _ _ _
      | exact LeO.none _
      | refine LeO.ite ?_ ?_
      | refine LeO.bind ?_ (fun _ => ?_)
set_option maxHeartbeats 8000000 in
set_option maxRecDepth 100000 in
theorem impl_HallWinner.calls (k : Nat) (A0 : Option Addr) (c0 : Nat) (l0 : List (S72)) (r : Int) (w : World) (hr0 : Kd.C k72 w A0 l0.length l0) (hc0 : l0.length ≤ c0) (h : impl_HallWinner.f k l0 = some r) :
  Calls Try.prog 42 #[.slice A0 l0.length c0] w fun e w' => e = .returned (.int .i64 r) ∧ Below w.heap.size w w' := by
 have HR0 := Aside0.mk hr0
 have HC0 := Aside0.mk hc0
 clear hr0 hc0
 have HB := Aside0.mk (Below.refl w.heap.size w)
 have H : ((impl_AreHearers.f k l0).bind fun t388 => (if t388 = true then ((impl_Gain.f k l0 1).bind fun t389 => ((impl_Gain.f k l0 2).bind fun t390 => ((impl_afterOf.f k l0 1).bind fun t391 => ((impl_afterOf.f k l0 2).bind fun t392 => (if (wrap64 (t389 - t390)) > 0 then (impl_HallWinner.j0 k (wrap64 (t389 - t390)) (wrap64 (t391 - t392)) true) else (if (wrap64 (t389 - t390)) = 0 then (impl_HallWinner.j0 k (wrap64 (t389 - t390)) (wrap64 (t391 - t392)) (decide ((wrap64 (t391 - t392)) > 0))) else (impl_HallWinner.j0 k (wrap64 (t389 - t390)) (wrap64 (t391 - t392)) false))))))) else (some 0))) = some r := h
 clear h
 replace H := Option.bind_eq_some_iff.mp H
 obtain ⟨t388, A20, H⟩ := H
 replace H : (if t388 = true then ((impl_Gain.f k l0 1).bind fun t389 => ((impl_Gain.f k l0 2).bind fun t390 => ((impl_afterOf.f k l0 1).bind fun t391 => ((impl_afterOf.f k l0 2).bind fun t392 => (if (wrap64 (t389 - t390)) > 0 then (impl_HallWinner.j0 k (wrap64 (t389 - t390)) (wrap64 (t391 - t392)) true) else (if (wrap64 (t389 - t390)) = 0 then (impl_HallWinner.j0 k (wrap64 (t389 - t390)) (wrap64 (t391 - t392)) (decide ((wrap64 (t391 - t392)) > 0))) else (impl_HallWinner.j0 k (wrap64 (t389 - t390)) (wrap64 (t391 - t392)) false))))))) else (some 0)) = some r := H
 have A2 := Aside0.mk A20
 clear A20
 by_cases c3 : t388 = true
 ·
  subst c3
  have H1 : ((impl_Gain.f k l0 1).bind fun t389 => ((impl_Gain.f k l0 2).bind fun t390 => ((impl_afterOf.f k l0 1).bind fun t391 => ((impl_afterOf.f k l0 2).bind fun t392 => (if (wrap64 (t389 - t390)) > 0 then (impl_HallWinner.j0 k (wrap64 (t389 - t390)) (wrap64 (t391 - t392)) true) else (if (wrap64 (t389 - t390)) = 0 then (impl_HallWinner.j0 k (wrap64 (t389 - t390)) (wrap64 (t391 - t392)) (decide ((wrap64 (t391 - t392)) > 0))) else (impl_HallWinner.j0 k (wrap64 (t389 - t390)) (wrap64 (t391 - t392)) false))))))) = some r := by rw [if_pos rfl] at H; exact H
  clear H
  have H := H1
  clear H1
  replace H := Option.bind_eq_some_iff.mp H
  obtain ⟨t389, A40, H⟩ := H
  replace H : ((impl_Gain.f k l0 2).bind fun t390 => ((impl_afterOf.f k l0 1).bind fun t391 => ((impl_afterOf.f k l0 2).bind fun t392 => (if (wrap64 (t389 - t390)) > 0 then (impl_HallWinner.j0 k (wrap64 (t389 - t390)) (wrap64 (t391 - t392)) true) else (if (wrap64 (t389 - t390)) = 0 then (impl_HallWinner.j0 k (wrap64 (t389 - t390)) (wrap64 (t391 - t392)) (decide ((wrap64 (t391 - t392)) > 0))) else (impl_HallWinner.j0 k (wrap64 (t389 - t390)) (wrap64 (t391 - t392)) false)))))) = some r := H
  have A4 := Aside0.mk A40
  clear A40
  replace H := Option.bind_eq_some_iff.mp H
  obtain ⟨t390, A50, H⟩ := H
  replace H : ((impl_afterOf.f k l0 1).bind fun t391 => ((impl_afterOf.f k l0 2).bind fun t392 => (if (wrap64 (t389 - t390)) > 0 then (impl_HallWinner.j0 k (wrap64 (t389 - t390)) (wrap64 (t391 - t392)) true) else (if (wrap64 (t389 - t390)) = 0 then (impl_HallWinner.j0 k (wrap64 (t389 - t390)) (wrap64 (t391 - t392)) (decide ((wrap64 (t391 - t392)) > 0))) else (impl_HallWinner.j0 k (wrap64 (t389 - t390)) (wrap64 (t391 - t392)) false))))) = some r := H
  have A5 := Aside0.mk A50
  clear A50
  replace H := Option.bind_eq_some_iff.mp H
  obtain ⟨t391, A60, H⟩ := H
  replace H : ((impl_afterOf.f k l0 2).bind fun t392 => (if (wrap64 (t389 - t390)) > 0 then (impl_HallWinner.j0 k (wrap64 (t389 - t390)) (wrap64 (t391 - t392)) true) else (if (wrap64 (t389 - t390)) = 0 then (impl_HallWinner.j0 k (wrap64 (t389 - t390)) (wrap64 (t391 - t392)) (decide ((wrap64 (t391 - t392)) > 0))) else (impl_HallWinner.j0 k (wrap64 (t389 - t390)) (wrap64 (t391 - t392)) false)))) = some r := H
  have A6 := Aside0.mk A60
  clear A60
  replace H := Option.bind_eq_some_iff.mp H
  obtain ⟨t392, A70, H⟩ := H
  replace H : (if (wrap64 (t389 - t390)) > 0 then (impl_HallWinner.j0 k (wrap64 (t389 - t390)) (wrap64 (t391 - t392)) true) else (if (wrap64 (t389 - t390)) = 0 then (impl_HallWinner.j0 k (wrap64 (t389 - t390)) (wrap64 (t391 - t392)) (decide ((wrap64 (t391 - t392)) > 0))) else (impl_HallWinner.j0 k (wrap64 (t389 - t390)) (wrap64 (t391 - t392)) false))) = some r := H
  have A7 := Aside0.mk A70
  clear A70
  have HC8 := Aside0.mk H
  clear H
  go_enter Try.func42, Try.ntmps42
  go_upto_region 4 with (first | ((with_reducible refine gate_callee (f := 53) rfl ?_); refine goesL_ (some 6) rfl rfl Try.func53 (by kernel_rfl) rfl #[.slice A0 l0.length c0] rfl (by (try simp only [List.map_toArray, List.map_cons, List.map_nil]); first | done | rfl | (simp only [List.length_drop, List.length_take]; rfl)) ?_; (with_reducible refine (impl_AreHearers.calls k _ _ l0 true _ ?side1 ?side2 A2.out).mono ?_); (case side1 => repeat (first | exact HR0.out | (with_reducible refine Kd.C_alloc ?_ _) | (with_reducible refine Kd.C_drewN ?_ _) | (with_reducible refine Kd.C_drew ?_))); (case side2 => exact HC0.out); rintro e w9 ⟨rfl, hb⟩; refine ⟨_, rfl, ?_⟩; have n0_ := Aside0.mk (below_step (by repeat (first | (with_reducible first | exact HB.out | apply below_alloc | apply pw_below_drewN | apply below_drew1) | exact HB.out)) hb); clear HB; have HB := n0_; clear n0_; (try clear hb); (try clear hb2); (try clear hk); (try clear hi)) | ((with_reducible refine gate_callee (f := 56) rfl ?_); refine goesL_ (some 9) rfl rfl Try.func56 (by kernel_rfl) rfl #[.slice A0 l0.length c0, .int .i64 1] rfl (by (try simp only [List.map_toArray, List.map_cons, List.map_nil]); first | done | rfl | (simp only [List.length_drop, List.length_take]; rfl)) ?_; (with_reducible refine (impl_Gain.calls k _ _ l0 1 t389 _ ?side1 ?side2 A4.out).mono ?_); (case side1 => repeat (first | exact (Kd.C_below HR0.out HB.out) | (with_reducible refine Kd.C_alloc ?_ _) | (with_reducible refine Kd.C_drewN ?_ _) | (with_reducible refine Kd.C_drew ?_))); (case side2 => exact HC0.out); rintro e w10 ⟨rfl, hb⟩; refine ⟨_, rfl, ?_⟩; have n0_ := Aside0.mk (below_step (by repeat (first | (with_reducible first | exact HB.out | apply below_alloc | apply pw_below_drewN | apply below_drew1) | exact HB.out)) hb); clear HB; have HB := n0_; clear n0_; (try clear hb); (try clear hb2); (try clear hk); (try clear hi)) | ((with_reducible refine gate_callee (f := 56) rfl ?_); refine goesL_ (some 11) rfl rfl Try.func56 (by kernel_rfl) rfl #[.slice A0 l0.length c0, .int .i64 2] rfl (by (try simp only [List.map_toArray, List.map_cons, List.map_nil]); first | done | rfl | (simp only [List.length_drop, List.length_take]; rfl)) ?_; (with_reducible refine (impl_Gain.calls k _ _ l0 2 t390 _ ?side1 ?side2 A5.out).mono ?_); (case side1 => repeat (first | exact (Kd.C_below HR0.out HB.out) | (with_reducible refine Kd.C_alloc ?_ _) | (with_reducible refine Kd.C_drewN ?_ _) | (with_reducible refine Kd.C_drew ?_))); (case side2 => exact HC0.out); rintro e w11 ⟨rfl, hb⟩; refine ⟨_, rfl, ?_⟩; have n0_ := Aside0.mk (below_step (by repeat (first | (with_reducible first | exact HB.out | apply below_alloc | apply pw_below_drewN | apply below_drew1) | exact HB.out)) hb); clear HB; have HB := n0_; clear n0_; (try clear hb); (try clear hb2); (try clear hk); (try clear hi)) | ((with_reducible refine gate_callee (f := 80) rfl ?_); refine goesL_ (some 14) rfl rfl Try.func80 (by kernel_rfl) rfl #[.slice A0 l0.length c0, .int .i64 1] rfl (by (try simp only [List.map_toArray, List.map_cons, List.map_nil]); first | done | rfl | (simp only [List.length_drop, List.length_take]; rfl)) ?_; (with_reducible refine (impl_afterOf.calls k _ _ l0 1 t391 _ ?side1 ?side2 A6.out).mono ?_); (case side1 => repeat (first | exact (Kd.C_below HR0.out HB.out) | (with_reducible refine Kd.C_alloc ?_ _) | (with_reducible refine Kd.C_drewN ?_ _) | (with_reducible refine Kd.C_drew ?_))); (case side2 => exact HC0.out); rintro e w12 ⟨rfl, hb⟩; refine ⟨_, rfl, ?_⟩; have n0_ := Aside0.mk (below_step (by repeat (first | (with_reducible first | exact HB.out | apply below_alloc | apply pw_below_drewN | apply below_drew1) | exact HB.out)) hb); clear HB; have HB := n0_; clear n0_; (try clear hb); (try clear hb2); (try clear hk); (try clear hi)) | ((with_reducible refine gate_callee (f := 80) rfl ?_); refine goesL_ (some 16) rfl rfl Try.func80 (by kernel_rfl) rfl #[.slice A0 l0.length c0, .int .i64 2] rfl (by (try simp only [List.map_toArray, List.map_cons, List.map_nil]); first | done | rfl | (simp only [List.length_drop, List.length_take]; rfl)) ?_; (with_reducible refine (impl_afterOf.calls k _ _ l0 2 t392 _ ?side1 ?side2 A7.out).mono ?_); (case side1 => repeat (first | exact (Kd.C_below HR0.out HB.out) | (with_reducible refine Kd.C_alloc ?_ _) | (with_reducible refine Kd.C_drewN ?_ _) | (with_reducible refine Kd.C_drew ?_))); (case side2 => exact HC0.out); rintro e w13 ⟨rfl, hb⟩; refine ⟨_, rfl, ?_⟩; have n0_ := Aside0.mk (below_step (by repeat (first | (with_reducible first | exact HB.out | apply below_alloc | apply pw_below_drewN | apply below_drew1) | exact HB.out)) hb); clear HB; have HB := n0_; clear n0_; (try clear hb); (try clear hb2); (try clear hk); (try clear hi)))
  (try simp only [Act.put, List.setIfInBounds_toArray, List.set_cons_zero, List.set_cons_succ])
  go_cut [18] (fun v18 wc => ∃ (kq : Nat) (x18_7 : Bool), v18 = .bool x18_7 ∧ Aside0 (impl_HallWinner.j0 kq (wrap64 (t389 - t390)) (wrap64 (t391 - t392)) x18_7 = some r) ∧ Aside0 (kq ≤ k) ∧ Aside0 (Below w.heap.size w wc))
  case first =>
   have H := HC8.out
   clear HC8
   by_cases c14 : (wrap64 (t389 - t390)) > 0
   ·
    rw [if_pos c14] at H
    have c14b0 : decide (0 < (wrap64 (t389 - t390))) = true := decide_eq_true c14
    clear c14
    (first | rw [c14b0] | (simp only [i64_w, i32_w]; rw [c14b0]) | skip)
    have H' := Aside0.mk H
    clear H
    go_wp2
    go_meet
    case rel => exact ⟨_, (true), (by first | rfl | (simp; done) | (simp [*]; done)), H', ⟨by first | omega | exact Nat.le_refl _⟩, ⟨by repeat (first | (with_reducible first | exact HB.out | apply below_alloc | apply pw_below_drewN | apply below_drew1) | exact HB.out)⟩⟩
   ·
    rw [if_neg c14] at H
    have c14b0 : decide (0 < (wrap64 (t389 - t390))) = false := decide_eq_false c14
    clear c14
    (first | rw [c14b0] | (simp only [i64_w, i32_w]; rw [c14b0]) | skip)
    by_cases c15 : (wrap64 (t389 - t390)) = 0
    ·
     rw [if_pos c15] at H
     have c15b0 : ((wrap64 (t389 - t390)) == 0) = true := beq_iff_eq.mpr c15
     have c15b1 : ((wrap64 (t389 - t390)) != 0) = false := bne_eq_false_iff_eq.mpr c15
     clear c15
     have H' := Aside0.mk H
     clear H
     go_wp2
     go_meet
     case rel => exact ⟨_, (decide ((wrap64 (t391 - t392)) > 0)), (by first | rfl | (simp; done) | (simp [*]; done)), H', ⟨by first | omega | exact Nat.le_refl _⟩, ⟨by repeat (first | (with_reducible first | exact HB.out | apply below_alloc | apply pw_below_drewN | apply below_drew1) | exact HB.out)⟩⟩
    ·
     rw [if_neg c15] at H
     have c15b0 : ((wrap64 (t389 - t390)) == 0) = false := beq_eq_false_iff_ne.mpr c15
     have c15b1 : ((wrap64 (t389 - t390)) != 0) = true := bne_iff_ne.mpr c15
     have H' := Aside0.mk H
     clear H
     go_wp2
     go_meet
     case rel => exact ⟨_, (false), (by first | rfl | (simp; done) | (simp [*]; done)), H', ⟨by first | omega | exact Nat.le_refl _⟩, ⟨by repeat (first | (with_reducible first | exact HB.out | apply below_alloc | apply pw_below_drewN | apply below_drew1) | exact HB.out)⟩⟩
  case rest =>
   clear HC8
   try clear c1
   try clear p2
   try clear c3
   try clear c4
   try clear c5
   try clear p6
   try clear c8
   try clear c14
   try clear c14b0
   try clear c15
   try clear c15b0
   try clear c15b1
   obtain ⟨kq, x18_7, rfl, HA, HJ7, HB⟩ := hcut
   cases kq with
   | zero => exact absurd HA.out (by simp [impl_HallWinner.j0])
   | succ kj7 =>
    have H := HA.out
    clear HA
    simp only [impl_HallWinner.j0] at H
    by_cases c16 : x18_7 = true
    ·
     subst c16
     have H1 : (some 1) = some r := by rw [if_pos rfl] at H; exact H
     clear H
     have H := H1
     clear H1
     obtain rfl := Option.some.inj H
     go_wp2
     go_ret
     exact ⟨by first | rfl | (simp [errW_none, errW_some] <;> rfl) | (simp [*, errW_none, errW_some] <;> rfl), by repeat (first | (with_reducible first | exact HB.out | apply below_alloc | apply pw_below_drewN | apply below_drew1) | exact HB.out)⟩
    ·
     replace c16 := Bool.eq_false_iff.mpr c16
     subst c16
     have H1 : (if (wrap64 (t389 - t390)) < 0 then (some 2) else (if (wrap64 (t391 - t392)) < 0 then (some 2) else (some 0))) = some r := by rw [if_neg (show ¬ (false = true) by decide)] at H; exact H
     clear H
     have H := H1
     clear H1
     by_cases c17 : (wrap64 (t389 - t390)) < 0
     ·
      rw [if_pos c17] at H
      have c17b0 : decide ((wrap64 (t389 - t390)) < 0) = true := decide_eq_true c17
      clear c17
      obtain rfl := Option.some.inj H
      go_wp2
      go_ret
      exact ⟨by first | rfl | (simp [errW_none, errW_some] <;> rfl) | (simp [*, errW_none, errW_some] <;> rfl), by repeat (first | (with_reducible first | exact HB.out | apply below_alloc | apply pw_below_drewN | apply below_drew1) | exact HB.out)⟩
     ·
      rw [if_neg c17] at H
      have c17b0 : decide ((wrap64 (t389 - t390)) < 0) = false := decide_eq_false c17
      clear c17
      by_cases c18 : (wrap64 (t391 - t392)) < 0
      ·
       rw [if_pos c18] at H
       have c18b0 : decide ((wrap64 (t391 - t392)) < 0) = true := decide_eq_true c18
       clear c18
       obtain rfl := Option.some.inj H
       go_wp2
       go_ret
       exact ⟨by first | rfl | (simp [errW_none, errW_some] <;> rfl) | (simp [*, errW_none, errW_some] <;> rfl), by repeat (first | (with_reducible first | exact HB.out | apply below_alloc | apply pw_below_drewN | apply below_drew1) | exact HB.out)⟩
      ·
       rw [if_neg c18] at H
       have c18b0 : decide ((wrap64 (t391 - t392)) < 0) = false := decide_eq_false c18
       clear c18
       obtain rfl := Option.some.inj H
       go_wp2
       go_ret
       exact ⟨by first | rfl | (simp [errW_none, errW_some] <;> rfl) | (simp [*, errW_none, errW_some] <;> rfl), by repeat (first | (with_reducible first | exact HB.out | apply below_alloc | apply pw_below_drewN | apply below_drew1) | exact HB.out)⟩
 ·
  replace c3 := Bool.eq_false_iff.mpr c3
  subst c3
  have H1 : (some 0) = some r := by rw [if_neg (show ¬ (false = true) by decide)] at H; exact H
  clear H
  have H := H1
  clear H1
  obtain rfl := Option.some.inj H
  go_enter Try.func42, Try.ntmps42
  go_wp2_with (first | ((with_reducible refine gate_callee (f := 53) rfl ?_); refine goesL_ (some 6) rfl rfl Try.func53 (by kernel_rfl) rfl #[.slice A0 l0.length c0] rfl (by (try simp only [List.map_toArray, List.map_cons, List.map_nil]); first | done | rfl | (simp only [List.length_drop, List.length_take]; rfl)) ?_; (with_reducible refine (impl_AreHearers.calls k _ _ l0 false _ ?side1 ?side2 A2.out).mono ?_); (case side1 => repeat (first | exact HR0.out | (with_reducible refine Kd.C_alloc ?_ _) | (with_reducible refine Kd.C_drewN ?_ _) | (with_reducible refine Kd.C_drew ?_))); (case side2 => exact HC0.out); rintro e w19 ⟨rfl, hb⟩; refine ⟨_, rfl, ?_⟩; have n0_ := Aside0.mk (below_step (by repeat (first | (with_reducible first | exact HB.out | apply below_alloc | apply pw_below_drewN | apply below_drew1) | exact HB.out)) hb); clear HB; have HB := n0_; clear n0_; (try clear hb); (try clear hb2); (try clear hk); (try clear hi)))
  go_ret
  exact ⟨by first | rfl | (simp [errW_none, errW_some] <;> rfl) | (simp [*, errW_none, errW_some] <;> rfl), by repeat (first | (with_reducible first | exact HB.out | apply below_alloc | apply pw_below_drewN | apply below_drew1) | exact HB.out)⟩

end Go.Proofs.Ytcffappipgapbaa.A
