-- Printed for this claim by a program of the session's (the kit's print, with contracts of our own taken in). Lean checks it.
import Derived.Test.YtiimiogpiflkdaaA0
import Derived.Test.YtiimiogpiflkdaaA4
import Derived.Test.YtiimiogpiflkdaaA34
-- squeezed
namespace Go.Proofs.Ytiimiogpiflkdaa.A
open Go.RowKit Go.Proofs.YtiimiogpiflkdaaW.PrintWords Go.Proofs.YtiimiogpiflkdaaW.PrintLast Go.Proofs.YtiimiogpiflkdaaW.PrintMore
attribute [local go_sem] max2_int min2_int max_two min_two max_three min_three max_four min_four   -- for this text's walks alone
set_option linter.unusedVariables false
set_option linter.unusedSimpArgs false

/-! ### spec_SideGap: function 29 -/
mutual
def spec_SideGap.l0 : Nat → List (S61) → List (S46) → Int → Int → Option (Int)
  | 0, _, _, _, _ => none
  | k + 1, x0, x1, x5, x6 => if x6 < (x1.length : Int) then (if 0 ≤ x6 then ((spec_FindTeam.f k x0 ((rd_T46 x1 x6).f0)).bind fun t263 => ((spec_FindTeam.f k x0 ((rd_T46 x1 x6).f1)).bind fun t265 => (if t263 ≥ 0 then (spec_SideGap.j1 k x0 x1 x5 x6 t263 t265 (decide (t265 ≥ 0))) else (spec_SideGap.j1 k x0 x1 x5 x6 t263 t265 false)))) else (none)) else (some x5)
def spec_SideGap.j1 : Nat → List (S61) → List (S46) → Int → Int → Int → Int → Bool → Option (Int)
  | 0, _, _, _, _, _, _, _ => none
  | k + 1, x0, x1, x5, x6, x7, x8, x34 => if x34 = true then (if 0 ≤ x7 then (if x7 < (x0.length : Int) then (if 0 ≤ x8 then (if x8 < (x0.length : Int) then ((spec_Max.f (wrap64 (((rd_T61 x0 x7).f4) - ((rd_T61 x0 x8).f4))) (wrap64 (((rd_T61 x0 x8).f4) - ((rd_T61 x0 x7).f4)))).bind fun t270 => ((spec_Max.f x5 t270).bind fun t271 => (spec_SideGap.l0 k x0 x1 t271 (wrap64 (x6 + 1))))) else (none)) else (none)) else (none)) else (none)) else (spec_SideGap.l0 k x0 x1 x5 (wrap64 (x6 + 1)))
end
def spec_SideGap.f (k : Nat) (l0 : List (S61)) (l1 : List (S46)) : Option (Int) := spec_SideGap.l0 k l0 l1 0 0
theorem spec_SideGap.mono_l : ∀ k, (∀ y0 y1 y2 y3, LeO (spec_SideGap.l0 k y0 y1 y2 y3) (spec_SideGap.l0 (k + 1) y0 y1 y2 y3)) ∧ (∀ y0 y1 y2 y3 y4 y5 y6, LeO (spec_SideGap.j1 k y0 y1 y2 y3 y4 y5 y6) (spec_SideGap.j1 (k + 1) y0 y1 y2 y3 y4 y5 y6))
  | 0 => ⟨fun _ _ _ _ r h => by simp [spec_SideGap.l0] at h, fun _ _ _ _ _ _ _ r h => by simp [spec_SideGap.j1] at h⟩
  | k + 1 => by
    obtain ⟨ih0, ih1⟩ := spec_SideGap.mono_l k
    refine ⟨?_, ?_⟩
    · intro y0 y1 y2 y3
      unfold spec_SideGap.l0
      repeat' first
      | (with_reducible exact ih0 _ _ _ _)
      | (with_reducible exact ih1 _ _ _ _ _ _ _)
      | (with_reducible exact spec_FindTeam.mono _ _ _)
      | (with_reducible exact LeO.refl _)
      | (with_reducible exact LeO.none _)
      | (with_reducible refine LeO.ite ?_ ?_)
      | (with_reducible refine LeO.bind ?_ (fun _ => ?_))
      | exact ih0 _ _ _ _
      | exact ih1 _ _ _ _ _ _ _
      | exact spec_FindTeam.mono _ _ _
      | exact LeO.none _
      | refine LeO.ite ?_ ?_
      | refine LeO.bind ?_ (fun _ => ?_)
    · intro y0 y1 y2 y3 y4 y5 y6
      unfold spec_SideGap.j1
      repeat' first
      | (with_reducible exact ih0 _ _ _ _)
      | (with_reducible exact ih1 _ _ _ _ _ _ _)
      | (with_reducible exact spec_FindTeam.mono _ _ _)
      | (with_reducible exact LeO.refl _)
      | (with_reducible exact LeO.none _)
      | (with_reducible refine LeO.ite ?_ ?_)
      | (with_reducible refine LeO.bind ?_ (fun _ => ?_))
      | exact ih0 _ _ _ _
      | exact ih1 _ _ _ _ _ _ _
      | exact spec_FindTeam.mono _ _ _
      | exact LeO.none _
      | refine LeO.ite ?_ ?_
      | refine LeO.bind ?_ (fun _ => ?_)
theorem spec_SideGap.mono : ∀ a0 a1 k, LeO (spec_SideGap.f k a0 a1) (spec_SideGap.f (k + 1) a0 a1) := by
  intro a0 a1 k
  obtain ⟨ih0, ih1⟩ := spec_SideGap.mono_l k
  unfold spec_SideGap.f
  repeat' first
      | (with_reducible exact ih0 _ _ _ _)
      | (with_reducible exact ih1 _ _ _ _ _ _ _)
      | (with_reducible exact spec_FindTeam.mono _ _ _)
      | (with_reducible exact LeO.refl _)
      | (with_reducible exact LeO.none _)
      | (with_reducible refine LeO.ite ?_ ?_)
      | (with_reducible refine LeO.bind ?_ (fun _ => ?_))
      | exact ih0 _ _ _ _
      | exact ih1 _ _ _ _ _ _ _
      | exact spec_FindTeam.mono _ _ _
      | exact LeO.none _
      | refine LeO.ite ?_ ?_
      | refine LeO.bind ?_ (fun _ => ?_)
set_option maxHeartbeats 8000000 in
set_option maxRecDepth 100000 in
theorem spec_SideGap.calls (k : Nat) (A0 : Option Addr) (c0 : Nat) (l0 : List (S61)) (A1 : Option Addr) (c1 : Nat) (l1 : List (S46)) (r : Int) (w : World) (hr0 : Kd.C k61 w A0 l0.length l0) (hc0 : l0.length ≤ c0) (hr1 : Kd.C k46 w A1 l1.length l1) (hc1 : l1.length ≤ c1) (h : spec_SideGap.f k l0 l1 = some r) :
  Calls Try.prog 29 #[.slice A0 l0.length c0, .slice A1 l1.length c1] w fun e w' => e = .returned (.int .i64 r) ∧ Drawn0 w w' := by
 have HR0 := Aside0.mk hr0
 have HC0 := Aside0.mk hc0
 clear hr0 hc0
 have HR1 := Aside0.mk hr1
 have HC1 := Aside0.mk hc1
 clear hr1 hc1
 have H : (spec_SideGap.l0 k l0 l1 0 0) = some r := h
 clear h
 have H' := Aside0.mk H
 clear H
 go_enter Try.func29, Try.ntmps29
 go_wp2
 repeat (go_quiet (fail); try go_wp2)
 go_loopg [5, 6] k (fun kq v5 v6 w' => ∃ (x5_1 : Int) (x6_1 : Int), v5 = .int .i64 x5_1 ∧ v6 = .int .i64 x6_1 ∧ Aside0 (spec_SideGap.l0 kq l0 l1 x5_1 x6_1 = some r) ∧ Aside0 (kq ≤ k) ∧ Drawn0 w w')
 case atStart => exact ⟨(0), (0), (by first | rfl | (simp; done) | (simp [*]; done)), (by first | rfl | (simp; done) | (simp [*]; done)), H', ⟨Nat.le_refl _⟩, by repeat (first | exact Drawn0.refl _ | apply Drawn0.step)⟩
 case round =>
  clear H'
  try clear c1
  try clear c2
  try clear p2
  obtain ⟨x5_1, x6_1, rfl, rfl, HA, HK1, ⟨m1, rfl⟩⟩ := hrel
  cases gk with
  | zero => exact absurd HA.out (by simp [spec_SideGap.l0])
  | succ k1 =>
   have H := HA.out
   clear HA
   simp only [spec_SideGap.l0] at H
   by_cases c3 : x6_1 < (l1.length : Int)
   ·
    rw [if_pos c3] at H
    have c3b0 : decide (x6_1 < (l1.length : Int)) = true := decide_eq_true c3
    clear c3
    by_cases c4 : 0 ≤ x6_1
    ·
     rw [if_pos c4] at H
     have c4b0 : decide (0 ≤ x6_1) = true := decide_eq_true c4
     clear c4
     replace H := Option.bind_eq_some_iff.mp H
     obtain ⟨t263, A50, H⟩ := H
     replace H : ((spec_FindTeam.f k1 l0 ((rd_T46 l1 x6_1).f1)).bind fun t265 => (if t263 ≥ 0 then (spec_SideGap.j1 k1 l0 l1 x5_1 x6_1 t263 t265 (decide (t265 ≥ 0))) else (spec_SideGap.j1 k1 l0 l1 x5_1 x6_1 t263 t265 false))) = some r := H
     have A5 := Aside0.mk A50
     clear A50
     replace H := Option.bind_eq_some_iff.mp H
     obtain ⟨t265, A60, H⟩ := H
     replace H : (if t263 ≥ 0 then (spec_SideGap.j1 k1 l0 l1 x5_1 x6_1 t263 t265 (decide (t265 ≥ 0))) else (spec_SideGap.j1 k1 l0 l1 x5_1 x6_1 t263 t265 false)) = some r := H
     have A6 := Aside0.mk A60
     clear A60
     have HC7 := Aside0.mk H
     clear H
     have p262 : 0 ≤ (x6_1 : Int) := of_decide_eq_true (by first | (with_reducible assumption) | assumption)
     have q262 : x6_1 < (l1.length : Int) := of_decide_eq_true (by first | (with_reducible assumption) | assumption)
     obtain ⟨ad262, e262, hx262_0, hx262_1⟩ := at_T46 HR1.out x6_1 p262 q262
     cases e262
     replace p262 := eq_true p262
     replace q262 := eq_true q262
     go_upto_region 7 with (first | (go_at_call 16; (with_reducible refine (spec_FindTeam.calls k1 _ _ l0 ((rd_T46 l1 x6_1).f0) t263 _ ?side1 ?side2 A5.out).mono ?_); (case side1 => repeat (first | exact HR0.out | (with_reducible refine Kd.C_alloc ?_ _) | (with_reducible refine Kd.C_drewN ?_ _) | (with_reducible refine Kd.C_drew ?_))); (case side2 => exact HC0.out); rintro e w' ⟨rfl, ⟨nd, rfl⟩⟩; (try first | exact ⟨rfl, _, World.drewN_drewN _ _ _⟩ | exact ⟨rfl, _, Eq.trans (World.drewN_drewN _ _ _) (congrArg (World.drewN _) (Nat.add_assoc _ _ _))⟩); have p264 : 0 ≤ (x6_1 : Int) := of_decide_eq_true (by first | (with_reducible assumption) | assumption); have q264 : x6_1 < (l1.length : Int) := of_decide_eq_true (by first | (with_reducible assumption) | assumption); obtain ⟨ad264, e264, hx264_0, hx264_1⟩ := at_T46 HR1.out x6_1 p264 q264; obtain rfl : ad262 = ad264 := (by injection e264); replace p264 := eq_true p264; replace q264 := eq_true q264) | (go_at_call 16; (with_reducible refine (spec_FindTeam.calls k1 _ _ l0 ((rd_T46 l1 x6_1).f1) t265 _ ?side1 ?side2 A6.out).mono ?_); (case side1 => repeat (first | exact HR0.out | (with_reducible refine Kd.C_alloc ?_ _) | (with_reducible refine Kd.C_drewN ?_ _) | (with_reducible refine Kd.C_drew ?_))); (case side2 => exact HC0.out); rintro e w' ⟨rfl, ⟨nd, rfl⟩⟩; (try first | exact ⟨rfl, _, World.drewN_drewN _ _ _⟩ | exact ⟨rfl, _, Eq.trans (World.drewN_drewN _ _ _) (congrArg (World.drewN _) (Nat.add_assoc _ _ _))⟩)))
     repeat (go_quiet (first | (go_at_call 16; (with_reducible refine (spec_FindTeam.calls k1 _ _ l0 ((rd_T46 l1 x6_1).f0) t263 _ ?side1 ?side2 A5.out).mono ?_); (case side1 => repeat (first | exact HR0.out | (with_reducible refine Kd.C_alloc ?_ _) | (with_reducible refine Kd.C_drewN ?_ _) | (with_reducible refine Kd.C_drew ?_))); (case side2 => exact HC0.out); rintro e w' ⟨rfl, ⟨nd, rfl⟩⟩; (try first | exact ⟨rfl, _, World.drewN_drewN _ _ _⟩ | exact ⟨rfl, _, Eq.trans (World.drewN_drewN _ _ _) (congrArg (World.drewN _) (Nat.add_assoc _ _ _))⟩); have p264 : 0 ≤ (x6_1 : Int) := of_decide_eq_true (by first | (with_reducible assumption) | assumption); have q264 : x6_1 < (l1.length : Int) := of_decide_eq_true (by first | (with_reducible assumption) | assumption); obtain ⟨ad264, e264, hx264_0, hx264_1⟩ := at_T46 HR1.out x6_1 p264 q264; obtain rfl : ad262 = ad264 := (by injection e264); replace p264 := eq_true p264; replace q264 := eq_true q264) | (go_at_call 16; (with_reducible refine (spec_FindTeam.calls k1 _ _ l0 ((rd_T46 l1 x6_1).f1) t265 _ ?side1 ?side2 A6.out).mono ?_); (case side1 => repeat (first | exact HR0.out | (with_reducible refine Kd.C_alloc ?_ _) | (with_reducible refine Kd.C_drewN ?_ _) | (with_reducible refine Kd.C_drew ?_))); (case side2 => exact HC0.out); rintro e w' ⟨rfl, ⟨nd, rfl⟩⟩; (try first | exact ⟨rfl, _, World.drewN_drewN _ _ _⟩ | exact ⟨rfl, _, Eq.trans (World.drewN_drewN _ _ _) (congrArg (World.drewN _) (Nat.add_assoc _ _ _))⟩))); go_upto_region 7 with (first | (go_at_call 16; (with_reducible refine (spec_FindTeam.calls k1 _ _ l0 ((rd_T46 l1 x6_1).f0) t263 _ ?side1 ?side2 A5.out).mono ?_); (case side1 => repeat (first | exact HR0.out | (with_reducible refine Kd.C_alloc ?_ _) | (with_reducible refine Kd.C_drewN ?_ _) | (with_reducible refine Kd.C_drew ?_))); (case side2 => exact HC0.out); rintro e w' ⟨rfl, ⟨nd, rfl⟩⟩; (try first | exact ⟨rfl, _, World.drewN_drewN _ _ _⟩ | exact ⟨rfl, _, Eq.trans (World.drewN_drewN _ _ _) (congrArg (World.drewN _) (Nat.add_assoc _ _ _))⟩); have p264 : 0 ≤ (x6_1 : Int) := of_decide_eq_true (by first | (with_reducible assumption) | assumption); have q264 : x6_1 < (l1.length : Int) := of_decide_eq_true (by first | (with_reducible assumption) | assumption); obtain ⟨ad264, e264, hx264_0, hx264_1⟩ := at_T46 HR1.out x6_1 p264 q264; obtain rfl : ad262 = ad264 := (by injection e264); replace p264 := eq_true p264; replace q264 := eq_true q264) | (go_at_call 16; (with_reducible refine (spec_FindTeam.calls k1 _ _ l0 ((rd_T46 l1 x6_1).f1) t265 _ ?side1 ?side2 A6.out).mono ?_); (case side1 => repeat (first | exact HR0.out | (with_reducible refine Kd.C_alloc ?_ _) | (with_reducible refine Kd.C_drewN ?_ _) | (with_reducible refine Kd.C_drew ?_))); (case side2 => exact HC0.out); rintro e w' ⟨rfl, ⟨nd, rfl⟩⟩; (try first | exact ⟨rfl, _, World.drewN_drewN _ _ _⟩ | exact ⟨rfl, _, Eq.trans (World.drewN_drewN _ _ _) (congrArg (World.drewN _) (Nat.add_assoc _ _ _))⟩))))
     (try simp only [Act.put, List.setIfInBounds_toArray, List.set_cons_zero, List.set_cons_succ])
     go_cut [34] (fun v34 wc => ∃ (kq : Nat) (x34_6 : Bool), v34 = .bool x34_6 ∧ Aside0 (spec_SideGap.j1 kq l0 l1 x5_1 x6_1 t263 t265 x34_6 = some r) ∧ Aside0 (kq ≤ k1) ∧ Drawn0 w wc)
     case first =>
      have H := HC7.out
      clear HC7
      by_cases c8 : t263 ≥ 0
      ·
       rw [if_pos c8] at H
       have c8b0 : decide (0 ≤ t263) = true := decide_eq_true c8
       clear c8
       (first | rw [c8b0] | (simp only [i64_w, i32_w]; rw [c8b0]) | skip)
       have H' := Aside0.mk H
       clear H
       go_wp2
       repeat (go_quiet (fail); try go_wp2)
       go_meet
       case rel => exact ⟨_, (decide (t265 ≥ 0)), (by first | rfl | (simp; done) | (simp [*]; done)), H', ⟨by have := HK1.out; first | omega | exact Nat.le_refl _⟩, by repeat (first | exact Drawn0.refl _ | apply Drawn0.step)⟩
      ·
       rw [if_neg c8] at H
       have c8b0 : decide (0 ≤ t263) = false := decide_eq_false c8
       clear c8
       (first | rw [c8b0] | (simp only [i64_w, i32_w]; rw [c8b0]) | skip)
       have H' := Aside0.mk H
       clear H
       go_wp2
       repeat (go_quiet (fail); try go_wp2)
       go_meet
       case rel => exact ⟨_, (false), (by first | rfl | (simp; done) | (simp [*]; done)), H', ⟨by have := HK1.out; first | omega | exact Nat.le_refl _⟩, by repeat (first | exact Drawn0.refl _ | apply Drawn0.step)⟩
     case rest =>
      clear HC7
      try clear c1
      try clear c2
      try clear p2
      try clear q2
      try clear hx2
      try clear c3
      try clear c3b0
      try clear c4
      try clear c4b0
      try clear c8
      try clear c8b0
      try clear hx262_0
      try clear hx262_1
      try clear hx264_0
      try clear hx264_1
      try clear p2
      try clear p262
      try clear p264
      try clear q262
      try clear q264
      obtain ⟨kq, x34_6, rfl, HA, HJ6, ⟨mc6, rfl⟩⟩ := hcut
      cases kq with
      | zero => exact absurd HA.out (by simp [spec_SideGap.j1])
      | succ kj6 =>
       have H := HA.out
       clear HA
       simp only [spec_SideGap.j1] at H
       by_cases c9 : x34_6 = true
       ·
        subst c9
        have H1 : (if 0 ≤ t263 then (if t263 < (l0.length : Int) then (if 0 ≤ t265 then (if t265 < (l0.length : Int) then ((spec_Max.f (wrap64 (((rd_T61 l0 t263).f4) - ((rd_T61 l0 t265).f4))) (wrap64 (((rd_T61 l0 t265).f4) - ((rd_T61 l0 t263).f4)))).bind fun t270 => ((spec_Max.f x5_1 t270).bind fun t271 => (spec_SideGap.l0 kj6 l0 l1 t271 (wrap64 (x6_1 + 1))))) else (none)) else (none)) else (none)) else (none)) = some r := by rw [if_pos rfl] at H; exact H
        clear H
        have H := H1
        clear H1
        by_cases c10 : 0 ≤ t263
        ·
         rw [if_pos c10] at H
         have c10b0 : decide (0 ≤ t263) = true := decide_eq_true c10
         clear c10
         by_cases c11 : t263 < (l0.length : Int)
         ·
          rw [if_pos c11] at H
          have c11b0 : decide (t263 < (l0.length : Int)) = true := decide_eq_true c11
          clear c11
          by_cases c12 : 0 ≤ t265
          ·
           rw [if_pos c12] at H
           have c12b0 : decide (0 ≤ t265) = true := decide_eq_true c12
           clear c12
           by_cases c13 : t265 < (l0.length : Int)
           ·
            rw [if_pos c13] at H
            have c13b0 : decide (t265 < (l0.length : Int)) = true := decide_eq_true c13
            clear c13
            replace H := Option.bind_eq_some_iff.mp H
            obtain ⟨t270, A140, H⟩ := H
            replace H : ((spec_Max.f x5_1 t270).bind fun t271 => (spec_SideGap.l0 kj6 l0 l1 t271 (wrap64 (x6_1 + 1)))) = some r := H
            have A14 := Aside0.mk A140
            clear A140
            replace H := Option.bind_eq_some_iff.mp H
            obtain ⟨t271, A150, H⟩ := H
            replace H : (spec_SideGap.l0 kj6 l0 l1 t271 (wrap64 (x6_1 + 1))) = some r := H
            have A15 := Aside0.mk A150
            clear A150
            have H' := Aside0.mk H
            clear H
            have p266 : 0 ≤ (t263 : Int) := of_decide_eq_true (by first | (with_reducible assumption) | assumption)
            have q266 : t263 < (l0.length : Int) := of_decide_eq_true (by first | (with_reducible assumption) | assumption)
            obtain ⟨ad266, A266_5, c266_5, e266, hx266_0, hx266_1, hx266_2, hx266_3, hx266_4, hx266_5, hl266_5, hi266_5⟩ := at_T61 HR0.out t263 p266 q266
            cases e266
            have HR266_5 := Aside0.mk hi266_5
            have HC266_5 := Aside0.mk hl266_5
            clear hi266_5 hl266_5
            replace p266 := eq_true p266
            replace q266 := eq_true q266
            have p267 : 0 ≤ (t265 : Int) := of_decide_eq_true (by first | (with_reducible assumption) | assumption)
            have q267 : t265 < (l0.length : Int) := of_decide_eq_true (by first | (with_reducible assumption) | assumption)
            obtain ⟨ad267, A267_5, c267_5, e267, hx267_0, hx267_1, hx267_2, hx267_3, hx267_4, hx267_5, hl267_5, hi267_5⟩ := at_T61 HR0.out t265 p267 q267
            obtain rfl : ad266 = ad267 := (by injection e267)
            have HR267_5 := Aside0.mk hi267_5
            have HC267_5 := Aside0.mk hl267_5
            clear hi267_5 hl267_5
            replace p267 := eq_true p267
            replace q267 := eq_true q267
            have p268 : 0 ≤ (t265 : Int) := of_decide_eq_true (by first | (with_reducible assumption) | assumption)
            have q268 : t265 < (l0.length : Int) := of_decide_eq_true (by first | (with_reducible assumption) | assumption)
            obtain ⟨ad268, A268_5, c268_5, e268, hx268_0, hx268_1, hx268_2, hx268_3, hx268_4, hx268_5, hl268_5, hi268_5⟩ := at_T61 HR0.out t265 p268 q268
            obtain rfl : ad266 = ad268 := (by injection e268)
            have HR268_5 := Aside0.mk hi268_5
            have HC268_5 := Aside0.mk hl268_5
            clear hi268_5 hl268_5
            replace p268 := eq_true p268
            replace q268 := eq_true q268
            have ea_ := Option.some.inj (hx267_5.symm.trans hx268_5)
            injection ea_ with ea_ en_ ec_
            subst ea_
            subst ec_
            clear en_
            have p269 : 0 ≤ (t263 : Int) := of_decide_eq_true (by first | (with_reducible assumption) | assumption)
            have q269 : t263 < (l0.length : Int) := of_decide_eq_true (by first | (with_reducible assumption) | assumption)
            obtain ⟨ad269, A269_5, c269_5, e269, hx269_0, hx269_1, hx269_2, hx269_3, hx269_4, hx269_5, hl269_5, hi269_5⟩ := at_T61 HR0.out t263 p269 q269
            obtain rfl : ad266 = ad269 := (by injection e269)
            have HR269_5 := Aside0.mk hi269_5
            have HC269_5 := Aside0.mk hl269_5
            clear hi269_5 hl269_5
            replace p269 := eq_true p269
            replace q269 := eq_true q269
            have ea_ := Option.some.inj (hx266_5.symm.trans hx269_5)
            injection ea_ with ea_ en_ ec_
            subst ea_
            subst ec_
            clear en_
            go_wp2_with (first | (go_at_call 65; (with_reducible refine (spec_Max.calls (wrap64 (((rd_T61 l0 t263).f4) - ((rd_T61 l0 t265).f4))) (wrap64 (((rd_T61 l0 t265).f4) - ((rd_T61 l0 t263).f4))) t270 _ A14.out).mono ?_); rintro e w' ⟨rfl, ⟨nd, rfl⟩⟩; (try first | exact ⟨rfl, _, World.drewN_drewN _ _ _⟩ | exact ⟨rfl, _, Eq.trans (World.drewN_drewN _ _ _) (congrArg (World.drewN _) (Nat.add_assoc _ _ _))⟩)) | (go_at_call 65; (with_reducible refine (spec_Max.calls x5_1 t270 t271 _ A15.out).mono ?_); rintro e w' ⟨rfl, ⟨nd, rfl⟩⟩; (try first | exact ⟨rfl, _, World.drewN_drewN _ _ _⟩ | exact ⟨rfl, _, Eq.trans (World.drewN_drewN _ _ _) (congrArg (World.drewN _) (Nat.add_assoc _ _ _))⟩)))
            repeat (go_quiet (first | (go_at_call 65; (with_reducible refine (spec_Max.calls (wrap64 (((rd_T61 l0 t263).f4) - ((rd_T61 l0 t265).f4))) (wrap64 (((rd_T61 l0 t265).f4) - ((rd_T61 l0 t263).f4))) t270 _ A14.out).mono ?_); rintro e w' ⟨rfl, ⟨nd, rfl⟩⟩; (try first | exact ⟨rfl, _, World.drewN_drewN _ _ _⟩ | exact ⟨rfl, _, Eq.trans (World.drewN_drewN _ _ _) (congrArg (World.drewN _) (Nat.add_assoc _ _ _))⟩)) | (go_at_call 65; (with_reducible refine (spec_Max.calls x5_1 t270 t271 _ A15.out).mono ?_); rintro e w' ⟨rfl, ⟨nd, rfl⟩⟩; (try first | exact ⟨rfl, _, World.drewN_drewN _ _ _⟩ | exact ⟨rfl, _, Eq.trans (World.drewN_drewN _ _ _) (congrArg (World.drewN _) (Nat.add_assoc _ _ _))⟩))); try go_wp2_with (first | (go_at_call 65; (with_reducible refine (spec_Max.calls (wrap64 (((rd_T61 l0 t263).f4) - ((rd_T61 l0 t265).f4))) (wrap64 (((rd_T61 l0 t265).f4) - ((rd_T61 l0 t263).f4))) t270 _ A14.out).mono ?_); rintro e w' ⟨rfl, ⟨nd, rfl⟩⟩; (try first | exact ⟨rfl, _, World.drewN_drewN _ _ _⟩ | exact ⟨rfl, _, Eq.trans (World.drewN_drewN _ _ _) (congrArg (World.drewN _) (Nat.add_assoc _ _ _))⟩)) | (go_at_call 65; (with_reducible refine (spec_Max.calls x5_1 t270 t271 _ A15.out).mono ?_); rintro e w' ⟨rfl, ⟨nd, rfl⟩⟩; (try first | exact ⟨rfl, _, World.drewN_drewN _ _ _⟩ | exact ⟨rfl, _, Eq.trans (World.drewN_drewN _ _ _) (congrArg (World.drewN _) (Nat.add_assoc _ _ _))⟩))))
            go_roundg kj6
            case measure => have := HK1.out; have := HJ6.out; omega
            case rel => exact ⟨(t271), (wrap64 (x6_1 + 1)), (by first | rfl | (simp; done) | (simp [*]; done)), (by first | rfl | (simp; done) | (simp [*]; done)), H', ⟨by have := HK1.out; have := HJ6.out; omega⟩, by repeat (first | exact Drawn0.refl _ | apply Drawn0.step)⟩
           ·
            rw [if_neg c13] at H
            exact absurd H (by simp)
          ·
           rw [if_neg c12] at H
           exact absurd H (by simp)
         ·
          rw [if_neg c11] at H
          exact absurd H (by simp)
        ·
         rw [if_neg c10] at H
         exact absurd H (by simp)
       ·
        replace c9 := Bool.eq_false_iff.mpr c9
        subst c9
        have H1 : (spec_SideGap.l0 kj6 l0 l1 x5_1 (wrap64 (x6_1 + 1))) = some r := by rw [if_neg (show ¬ (false = true) by decide)] at H; exact H
        clear H
        have H := H1
        clear H1
        have H' := Aside0.mk H
        clear H
        go_wp2
        repeat (go_quiet (fail); try go_wp2)
        go_roundg kj6
        case measure => have := HK1.out; have := HJ6.out; omega
        case rel => exact ⟨(x5_1), (wrap64 (x6_1 + 1)), (by first | rfl | (simp; done) | (simp [*]; done)), (by first | rfl | (simp; done) | (simp [*]; done)), H', ⟨by have := HK1.out; have := HJ6.out; omega⟩, by repeat (first | exact Drawn0.refl _ | apply Drawn0.step)⟩
    ·
     rw [if_neg c4] at H
     exact absurd H (by simp)
   ·
    rw [if_neg c3] at H
    have c3b0 : decide (x6_1 < (l1.length : Int)) = false := decide_eq_false c3
    clear c3
    obtain rfl := Option.some.inj H
    go_wp2
    repeat (go_quiet (fail); try go_wp2)
    go_ret
    exact ⟨by first | rfl | (simp; done) | (simp [*]; done), by repeat (first | exact Drawn0.refl _ | apply Drawn0.step)⟩

end Go.Proofs.Ytiimiogpiflkdaa.A
