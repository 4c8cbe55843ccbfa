-- Printed for this claim by a program of the session's (the kit's print, with contracts of our own taken in). Lean checks it.
import Derived.Test.YtcffappipgapbaaA0
import Derived.Test.YtcffappipgapbaaA57
import Derived.Test.YtcffappipgapbaaA58
import Derived.Test.YtcffappipgapbaaA59
-- squeezed
namespace Go.Proofs.Ytcffappipgapbaa.A
open Go.RowKit Go.Proofs.YtcffappipgapbaaW.PrintWords Go.Proofs.YtcffappipgapbaaW.PrintLast Go.Proofs.YtcffappipgapbaaW.PrintMore
attribute [local go_sem] max2_int min2_int max_two min_two max_three min_three max_four min_four   -- for this text's walks alone
set_option linter.unusedVariables false
set_option linter.unusedSimpArgs false

/-! ### spec_HallWinner: function 40 -/
def spec_HallWinner.j0 : Nat → Int → Option (Int)
  | 0, _ => none
  | k + 1, x3 => if x3 > 0 then (some 1) else (if x3 < 0 then (some 2) else (some 0))
def spec_HallWinner.f (k : Nat) (l0 : List (S72)) : Option (Int) := (spec_AreHearers.f k l0).bind fun t364 => (if t364 = true then ((spec_Gain.f k l0 1).bind fun t365 => ((spec_Gain.f k l0 2).bind fun t366 => (if (wrap64 (t365 - t366)) = 0 then ((spec_l18After.f k l0 1).bind fun t367 => ((spec_l18After.f k l0 2).bind fun t368 => (spec_HallWinner.j0 k (wrap64 (t367 - t368))))) else (spec_HallWinner.j0 k (wrap64 (t365 - t366)))))) else (some 0))
theorem spec_HallWinner.mono_l : ∀ k, (∀ y0, LeO (spec_HallWinner.j0 k y0) (spec_HallWinner.j0 (k + 1) y0))
  | 0 => fun _ r h => by simp [spec_HallWinner.j0] at h
  | k + 1 => by
    have ih0 := spec_HallWinner.mono_l k
    · intro y0
      unfold spec_HallWinner.j0
      repeat' first
      | (with_reducible exact ih0 _)
      | (with_reducible exact spec_AreHearers.mono _ _)
      | (with_reducible exact spec_Gain.mono _ _ _)
      | (with_reducible exact spec_l18After.mono _ _ _)
      | (with_reducible exact LeO.refl _)
      | (with_reducible exact LeO.none _)
      | (with_reducible refine LeO.ite ?_ ?_)
      | (with_reducible refine LeO.bind ?_ (fun _ => ?_))
      | exact ih0 _
      | exact spec_AreHearers.mono _ _
      | exact spec_Gain.mono _ _ _
      | exact spec_l18After.mono _ _ _
      | exact LeO.none _
      | refine LeO.ite ?_ ?_
      | refine LeO.bind ?_ (fun _ => ?_)
theorem spec_HallWinner.mono : ∀ a0 k, LeO (spec_HallWinner.f k a0) (spec_HallWinner.f (k + 1) a0) := by
  intro a0 k
  have ih0 := spec_HallWinner.mono_l k
  unfold spec_HallWinner.f
  repeat' first
      | (with_reducible exact ih0 _)
      | (with_reducible exact spec_AreHearers.mono _ _)
      | (with_reducible exact spec_Gain.mono _ _ _)
      | (with_reducible exact spec_l18After.mono _ _ _)
      | (with_reducible exact LeO.refl _)
      | (with_reducible exact LeO.none _)
      | (with_reducible refine LeO.ite ?_ ?_)
      | (with_reducible refine LeO.bind ?_ (fun _ => ?_))
      | exact ih0 _
      | exact spec_AreHearers.mono _ _
      | exact spec_Gain.mono _ _ _
      | exact spec_l18After.mono _ _ _
      | exact LeO.none _
      | refine LeO.ite ?_ ?_
      | refine LeO.bind ?_ (fun _ => ?_)
set_option maxHeartbeats 8000000 in
set_option maxRecDepth 100000 in
theorem spec_HallWinner.calls (k : Nat) (A0 : Option Addr) (c0 : Nat) (l0 : List (S72)) (r : Int) (w : World) (hr0 : Kd.C k72 w A0 l0.length l0) (hc0 : l0.length ≤ c0) (h : spec_HallWinner.f k l0 = some r) :
  Calls Try.prog 40 #[.slice A0 l0.length c0] w fun e w' => e = .returned (.int .i64 r) ∧ Drawn0 w w' := by
 have HR0 := Aside0.mk hr0
 have HC0 := Aside0.mk hc0
 clear hr0 hc0
 have H : ((spec_AreHearers.f k l0).bind fun t364 => (if t364 = true then ((spec_Gain.f k l0 1).bind fun t365 => ((spec_Gain.f k l0 2).bind fun t366 => (if (wrap64 (t365 - t366)) = 0 then ((spec_l18After.f k l0 1).bind fun t367 => ((spec_l18After.f k l0 2).bind fun t368 => (spec_HallWinner.j0 k (wrap64 (t367 - t368))))) else (spec_HallWinner.j0 k (wrap64 (t365 - t366)))))) else (some 0))) = some r := h
 clear h
 replace H := Option.bind_eq_some_iff.mp H
 obtain ⟨t364, A20, H⟩ := H
 replace H : (if t364 = true then ((spec_Gain.f k l0 1).bind fun t365 => ((spec_Gain.f k l0 2).bind fun t366 => (if (wrap64 (t365 - t366)) = 0 then ((spec_l18After.f k l0 1).bind fun t367 => ((spec_l18After.f k l0 2).bind fun t368 => (spec_HallWinner.j0 k (wrap64 (t367 - t368))))) else (spec_HallWinner.j0 k (wrap64 (t365 - t366)))))) else (some 0)) = some r := H
 have A2 := Aside0.mk A20
 clear A20
 by_cases c3 : t364 = true
 ·
  subst c3
  have H1 : ((spec_Gain.f k l0 1).bind fun t365 => ((spec_Gain.f k l0 2).bind fun t366 => (if (wrap64 (t365 - t366)) = 0 then ((spec_l18After.f k l0 1).bind fun t367 => ((spec_l18After.f k l0 2).bind fun t368 => (spec_HallWinner.j0 k (wrap64 (t367 - t368))))) else (spec_HallWinner.j0 k (wrap64 (t365 - t366)))))) = some r := by rw [if_pos rfl] at H; exact H
  clear H
  have H := H1
  clear H1
  replace H := Option.bind_eq_some_iff.mp H
  obtain ⟨t365, A40, H⟩ := H
  replace H : ((spec_Gain.f k l0 2).bind fun t366 => (if (wrap64 (t365 - t366)) = 0 then ((spec_l18After.f k l0 1).bind fun t367 => ((spec_l18After.f k l0 2).bind fun t368 => (spec_HallWinner.j0 k (wrap64 (t367 - t368))))) else (spec_HallWinner.j0 k (wrap64 (t365 - t366))))) = some r := H
  have A4 := Aside0.mk A40
  clear A40
  replace H := Option.bind_eq_some_iff.mp H
  obtain ⟨t366, A50, H⟩ := H
  replace H : (if (wrap64 (t365 - t366)) = 0 then ((spec_l18After.f k l0 1).bind fun t367 => ((spec_l18After.f k l0 2).bind fun t368 => (spec_HallWinner.j0 k (wrap64 (t367 - t368))))) else (spec_HallWinner.j0 k (wrap64 (t365 - t366)))) = some r := H
  have A5 := Aside0.mk A50
  clear A50
  have HC6 := Aside0.mk H
  clear H
  go_enter Try.func40, Try.ntmps40
  go_upto_if 13 with (first | ((with_reducible refine gate_callee (f := 54) rfl ?_); refine goesL_ (some 5) rfl rfl Try.func54 (by kernel_rfl) rfl #[.slice A0 l0.length c0] rfl (by (try simp only [List.map_toArray, List.map_cons, List.map_nil]); first | done | rfl | (simp only [List.length_drop, List.length_take]; rfl)) ?_; (with_reducible refine (spec_AreHearers.calls k _ _ l0 true _ ?side1 ?side2 A2.out).mono ?_); (case side1 => repeat (first | exact HR0.out | (with_reducible refine Kd.C_alloc ?_ _) | (with_reducible refine Kd.C_drewN ?_ _) | (with_reducible refine Kd.C_drew ?_))); (case side2 => exact HC0.out); rintro e w' ⟨rfl, ⟨nd, rfl⟩⟩; refine ⟨_, rfl, ?_⟩) | ((with_reducible refine gate_callee (f := 77) rfl ?_); refine goesL_ (some 8) rfl rfl Try.func77 (by kernel_rfl) rfl #[.slice A0 l0.length c0, .int .i64 1] rfl (by (try simp only [List.map_toArray, List.map_cons, List.map_nil]); first | done | rfl | (simp only [List.length_drop, List.length_take]; rfl)) ?_; (with_reducible refine (spec_Gain.calls k _ _ l0 1 t365 _ ?side1 ?side2 A4.out).mono ?_); (case side1 => repeat (first | exact HR0.out | (with_reducible refine Kd.C_alloc ?_ _) | (with_reducible refine Kd.C_drewN ?_ _) | (with_reducible refine Kd.C_drew ?_))); (case side2 => exact HC0.out); rintro e w' ⟨rfl, ⟨nd, rfl⟩⟩; refine ⟨_, rfl, ?_⟩) | ((with_reducible refine gate_callee (f := 77) rfl ?_); refine goesL_ (some 10) rfl rfl Try.func77 (by kernel_rfl) rfl #[.slice A0 l0.length c0, .int .i64 2] rfl (by (try simp only [List.map_toArray, List.map_cons, List.map_nil]); first | done | rfl | (simp only [List.length_drop, List.length_take]; rfl)) ?_; (with_reducible refine (spec_Gain.calls k _ _ l0 2 t366 _ ?side1 ?side2 A5.out).mono ?_); (case side1 => repeat (first | exact HR0.out | (with_reducible refine Kd.C_alloc ?_ _) | (with_reducible refine Kd.C_drewN ?_ _) | (with_reducible refine Kd.C_drew ?_))); (case side2 => exact HC0.out); rintro e w' ⟨rfl, ⟨nd, rfl⟩⟩; refine ⟨_, rfl, ?_⟩))
  (try simp only [Act.put, List.setIfInBounds_toArray, List.set_cons_zero, List.set_cons_succ])
  go_cut [3] (fun v3 wc => ∃ (kq : Nat) (x3_5 : Int), v3 = .int .i64 x3_5 ∧ Aside0 (spec_HallWinner.j0 kq x3_5 = some r) ∧ Aside0 (kq ≤ k) ∧ Drawn0 w wc)
  case first =>
   have H := HC6.out
   clear HC6
   by_cases c7 : (wrap64 (t365 - t366)) = 0
   ·
    rw [if_pos c7] at H
    have c7b0 : ((wrap64 (t365 - t366)) == 0) = true := beq_iff_eq.mpr c7
    have c7b1 : ((wrap64 (t365 - t366)) != 0) = false := bne_eq_false_iff_eq.mpr c7
    clear c7
    (first | rw [c7b0] | (simp only [i64_w, i32_w]; rw [c7b0]) | skip)
    replace H := Option.bind_eq_some_iff.mp H
    obtain ⟨t367, A80, H⟩ := H
    replace H : ((spec_l18After.f k l0 2).bind fun t368 => (spec_HallWinner.j0 k (wrap64 (t367 - t368)))) = some r := H
    have A8 := Aside0.mk A80
    clear A80
    replace H := Option.bind_eq_some_iff.mp H
    obtain ⟨t368, A90, H⟩ := H
    replace H : (spec_HallWinner.j0 k (wrap64 (t367 - t368))) = some r := H
    have A9 := Aside0.mk A90
    clear A90
    have H' := Aside0.mk H
    clear H
    go_wp2_with (first | ((with_reducible refine gate_callee (f := 78) rfl ?_); refine goesL_ (some 15) rfl rfl Try.func78 (by kernel_rfl) rfl #[.slice A0 l0.length c0, .int .i64 1] rfl (by (try simp only [List.map_toArray, List.map_cons, List.map_nil]); first | done | rfl | (simp only [List.length_drop, List.length_take]; rfl)) ?_; (with_reducible refine (spec_l18After.calls k _ _ l0 1 t367 _ ?side1 ?side2 A8.out).mono ?_); (case side1 => repeat (first | exact HR0.out | (with_reducible refine Kd.C_alloc ?_ _) | (with_reducible refine Kd.C_drewN ?_ _) | (with_reducible refine Kd.C_drew ?_))); (case side2 => exact HC0.out); rintro e w' ⟨rfl, ⟨nd, rfl⟩⟩; refine ⟨_, rfl, ?_⟩) | ((with_reducible refine gate_callee (f := 78) rfl ?_); refine goesL_ (some 17) rfl rfl Try.func78 (by kernel_rfl) rfl #[.slice A0 l0.length c0, .int .i64 2] rfl (by (try simp only [List.map_toArray, List.map_cons, List.map_nil]); first | done | rfl | (simp only [List.length_drop, List.length_take]; rfl)) ?_; (with_reducible refine (spec_l18After.calls k _ _ l0 2 t368 _ ?side1 ?side2 A9.out).mono ?_); (case side1 => repeat (first | exact HR0.out | (with_reducible refine Kd.C_alloc ?_ _) | (with_reducible refine Kd.C_drewN ?_ _) | (with_reducible refine Kd.C_drew ?_))); (case side2 => exact HC0.out); rintro e w' ⟨rfl, ⟨nd, rfl⟩⟩; refine ⟨_, rfl, ?_⟩))
    go_meet
    case rel => exact ⟨_, (wrap64 (t367 - t368)), (by first | rfl | (simp; done) | (simp [*]; done)), H', ⟨by first | omega | exact Nat.le_refl _⟩, by repeat (first | exact Drawn0.refl _ | apply Drawn0.step)⟩
   ·
    rw [if_neg c7] at H
    have c7b0 : ((wrap64 (t365 - t366)) == 0) = false := beq_eq_false_iff_ne.mpr c7
    have c7b1 : ((wrap64 (t365 - t366)) != 0) = true := bne_iff_ne.mpr c7
    (first | rw [c7b0] | (simp only [i64_w, i32_w]; rw [c7b0]) | skip)
    have H' := Aside0.mk H
    clear H
    go_wp2
    go_meet
    case rel => exact ⟨_, (wrap64 (t365 - t366)), (by first | rfl | (simp; done) | (simp [*]; done)), H', ⟨by first | omega | exact Nat.le_refl _⟩, by repeat (first | exact Drawn0.refl _ | apply Drawn0.step)⟩
  case rest =>
   clear HC6
   try clear p2
   try clear c3
   try clear c4
   try clear c5
   try clear p6
   try clear c7
   try clear c7b0
   try clear c7b1
   obtain ⟨kq, x3_5, rfl, HA, HJ5, ⟨mc5, rfl⟩⟩ := hcut
   cases kq with
   | zero => exact absurd HA.out (by simp [spec_HallWinner.j0])
   | succ kj5 =>
    have H := HA.out
    clear HA
    simp only [spec_HallWinner.j0] at H
    by_cases c10 : x3_5 > 0
    ·
     rw [if_pos c10] at H
     have c10b0 : decide (0 < x3_5) = true := decide_eq_true c10
     clear c10
     obtain rfl := Option.some.inj H
     go_wp2
     go_ret
     exact ⟨by first | rfl | (simp; done) | (simp [*]; done), by repeat (first | exact Drawn0.refl _ | apply Drawn0.step)⟩
    ·
     rw [if_neg c10] at H
     have c10b0 : decide (0 < x3_5) = false := decide_eq_false c10
     clear c10
     by_cases c11 : x3_5 < 0
     ·
      rw [if_pos c11] at H
      have c11b0 : decide (x3_5 < 0) = true := decide_eq_true c11
      clear c11
      obtain rfl := Option.some.inj H
      go_wp2
      go_ret
      exact ⟨by first | rfl | (simp; done) | (simp [*]; done), by repeat (first | exact Drawn0.refl _ | apply Drawn0.step)⟩
     ·
      rw [if_neg c11] at H
      have c11b0 : decide (x3_5 < 0) = false := decide_eq_false c11
      clear c11
      obtain rfl := Option.some.inj H
      go_wp2
      go_ret
      exact ⟨by first | rfl | (simp; done) | (simp [*]; done), by repeat (first | exact Drawn0.refl _ | apply Drawn0.step)⟩
 ·
  replace c3 := Bool.eq_false_iff.mpr c3
  subst c3
  have H1 : (some 0) = some r := by rw [if_neg (show ¬ (false = true) by decide)] at H; exact H
  clear H
  have H := H1
  clear H1
  obtain rfl := Option.some.inj H
  go_enter Try.func40, Try.ntmps40
  go_wp2_with (first | ((with_reducible refine gate_callee (f := 54) rfl ?_); refine goesL_ (some 5) rfl rfl Try.func54 (by kernel_rfl) rfl #[.slice A0 l0.length c0] rfl (by (try simp only [List.map_toArray, List.map_cons, List.map_nil]); first | done | rfl | (simp only [List.length_drop, List.length_take]; rfl)) ?_; (with_reducible refine (spec_AreHearers.calls k _ _ l0 false _ ?side1 ?side2 A2.out).mono ?_); (case side1 => repeat (first | exact HR0.out | (with_reducible refine Kd.C_alloc ?_ _) | (with_reducible refine Kd.C_drewN ?_ _) | (with_reducible refine Kd.C_drew ?_))); (case side2 => exact HC0.out); rintro e w' ⟨rfl, ⟨nd, rfl⟩⟩; refine ⟨_, rfl, ?_⟩))
  go_ret
  exact ⟨by first | rfl | (simp; done) | (simp [*]; done), by repeat (first | exact Drawn0.refl _ | apply Drawn0.step)⟩

end Go.Proofs.Ytcffappipgapbaa.A
