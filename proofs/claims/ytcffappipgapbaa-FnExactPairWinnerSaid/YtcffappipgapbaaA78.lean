-- Printed for this claim by a program of the session's (the kit's print, with contracts of our own taken in). Lean checks it.
import Derived.Test.YtcffappipgapbaaA0
import Derived.Test.YtcffappipgapbaaA8
import Derived.Test.YtcffappipgapbaaA54
-- squeezed
namespace Go.Proofs.Ytcffappipgapbaa.A
open Go.RowKit Go.Proofs.YtcffappipgapbaaW.PrintWords Go.Proofs.YtcffappipgapbaaW.PrintLast Go.Proofs.YtcffappipgapbaaW.PrintMore
attribute [local go_sem] max2_int min2_int max_two min_two max_three min_three max_four min_four   -- for this text's walks alone
set_option linter.unusedVariables false
set_option linter.unusedSimpArgs false

/-! ### impl_PairWinner: function 50 -/
mutual
def impl_PairWinner.l0 : Nat → List (List Int) → Int → Int → Int → Option (Int)
  | 0, _, _, _, _ => none
  | k + 1, x0, x1, x12, x13 => if x13 < x12 then (impl_PairWinner.l1 k x0 x1 x13 true x12 x13 x1 0) else (some (-1))
def impl_PairWinner.l1 : Nat → List (List Int) → Int → Int → Bool → Int → Int → Int → Int → Option (Int)
  | 0, _, _, _, _, _, _, _, _ => none
  | k + 1, x0, x1, x5, x6, x12, x13, x16, x17 => if x17 < x16 then (if x6 = true then (if x5 = x17 then (impl_PairWinner.l1 k x0 x1 x5 true x12 x13 x16 (wrap64 (x17 + 1))) else ((impl_Prefer.f k x0 x5 x17).bind fun t481 => ((impl_Prefer.f k x0 x17 x5).bind fun t482 => (impl_PairWinner.l1 k x0 x1 x5 (decide (t481 > t482)) x12 x13 x16 (wrap64 (x17 + 1)))))) else (impl_PairWinner.l1 k x0 x1 x5 false x12 x13 x16 (wrap64 (x17 + 1)))) else (if x6 = true then (some x5) else (impl_PairWinner.l0 k x0 x1 x12 (wrap64 (x13 + 1))))
end
def impl_PairWinner.f (k : Nat) (l0 : List (List Int)) (a1 : Int) : Option (Int) := (impl_AreRankings.f k l0 a1).bind fun t480 => (if t480 = true then (impl_PairWinner.l0 k l0 a1 a1 0) else (some (-1)))
theorem impl_PairWinner.mono_l : ∀ k, (∀ y0 y1 y2 y3, LeO (impl_PairWinner.l0 k y0 y1 y2 y3) (impl_PairWinner.l0 (k + 1) y0 y1 y2 y3)) ∧ (∀ y0 y1 y2 y3 y4 y5 y6 y7, LeO (impl_PairWinner.l1 k y0 y1 y2 y3 y4 y5 y6 y7) (impl_PairWinner.l1 (k + 1) y0 y1 y2 y3 y4 y5 y6 y7))
  | 0 => ⟨fun _ _ _ _ r h => by simp [impl_PairWinner.l0] at h, fun _ _ _ _ _ _ _ _ r h => by simp [impl_PairWinner.l1] at h⟩
  | k + 1 => by
    obtain ⟨ih0, ih1⟩ := impl_PairWinner.mono_l k
    refine ⟨?_, ?_⟩
    · intro y0 y1 y2 y3
      unfold impl_PairWinner.l0
      repeat' first
      | (with_reducible exact ih0 _ _ _ _)
      | (with_reducible exact ih1 _ _ _ _ _ _ _ _)
      | (with_reducible exact impl_AreRankings.mono _ _ _)
      | (with_reducible exact impl_Prefer.mono _ _ _ _)
      | (with_reducible exact LeO.refl _)
      | (with_reducible exact LeO.none _)
      | (with_reducible refine LeO.ite ?_ ?_)
      | (with_reducible refine LeO.bind ?_ (fun _ => ?_))
      | exact ih0 _ _ _ _
      | exact ih1 _ _ _ _ _ _ _ _
      | exact impl_AreRankings.mono _ _ _
      | exact impl_Prefer.mono _ _ _ _
      | exact LeO.none _
      | refine LeO.ite ?_ ?_
      | refine LeO.bind ?_ (fun _ => ?_)
    · intro y0 y1 y2 y3 y4 y5 y6 y7
      unfold impl_PairWinner.l1
      repeat' first
      | (with_reducible exact ih0 _ _ _ _)
      | (with_reducible exact ih1 _ _ _ _ _ _ _ _)
      | (with_reducible exact impl_AreRankings.mono _ _ _)
      | (with_reducible exact impl_Prefer.mono _ _ _ _)
      | (with_reducible exact LeO.refl _)
      | (with_reducible exact LeO.none _)
      | (with_reducible refine LeO.ite ?_ ?_)
      | (with_reducible refine LeO.bind ?_ (fun _ => ?_))
      | exact ih0 _ _ _ _
      | exact ih1 _ _ _ _ _ _ _ _
      | exact impl_AreRankings.mono _ _ _
      | exact impl_Prefer.mono _ _ _ _
      | exact LeO.none _
      | refine LeO.ite ?_ ?_
      | refine LeO.bind ?_ (fun _ => ?_)
theorem impl_PairWinner.mono : ∀ a0 a1 k, LeO (impl_PairWinner.f k a0 a1) (impl_PairWinner.f (k + 1) a0 a1) := by
  intro a0 a1 k
  obtain ⟨ih0, ih1⟩ := impl_PairWinner.mono_l k
  unfold impl_PairWinner.f
  repeat' first
      | (with_reducible exact ih0 _ _ _ _)
      | (with_reducible exact ih1 _ _ _ _ _ _ _ _)
      | (with_reducible exact impl_AreRankings.mono _ _ _)
      | (with_reducible exact impl_Prefer.mono _ _ _ _)
      | (with_reducible exact LeO.refl _)
      | (with_reducible exact LeO.none _)
      | (with_reducible refine LeO.ite ?_ ?_)
      | (with_reducible refine LeO.bind ?_ (fun _ => ?_))
      | exact ih0 _ _ _ _
      | exact ih1 _ _ _ _ _ _ _ _
      | exact impl_AreRankings.mono _ _ _
      | exact impl_Prefer.mono _ _ _ _
      | exact LeO.none _
      | refine LeO.ite ?_ ?_
      | refine LeO.bind ?_ (fun _ => ?_)
set_option maxHeartbeats 8000000 in
set_option maxRecDepth 100000 in
theorem impl_PairWinner.calls (k : Nat) (A0 : Option Addr) (c0 : Nat) (l0 : List (List Int)) (a1 : Int) (r : Int) (w : World) (hr0 : Kd.C (Kd.slice 3 (Kd.int .i64)) w A0 l0.length l0) (hc0 : l0.length ≤ c0) (h : impl_PairWinner.f k l0 a1 = some r) :
  Calls Try.prog 50 #[.slice A0 l0.length c0, .int .i64 a1] w fun e w' => e = .returned (.int .i64 r) ∧ Drawn0 w w' := by
 have HR0 := Aside0.mk hr0
 have HC0 := Aside0.mk hc0
 clear hr0 hc0
 have H : ((impl_AreRankings.f k l0 a1).bind fun t480 => (if t480 = true then (impl_PairWinner.l0 k l0 a1 a1 0) else (some (-1)))) = some r := h
 clear h
 replace H := Option.bind_eq_some_iff.mp H
 obtain ⟨t480, A30, H⟩ := H
 replace H : (if t480 = true then (impl_PairWinner.l0 k l0 a1 a1 0) else (some (-1))) = some r := H
 have A3 := Aside0.mk A30
 clear A30
 by_cases c4 : t480 = true
 ·
  subst c4
  have H1 : (impl_PairWinner.l0 k l0 a1 a1 0) = some r := by rw [if_pos rfl] at H; exact H
  clear H
  have H := H1
  clear H1
  have H' := Aside0.mk H
  clear H
  go_enter Try.func50, Try.ntmps50
  go_wp2_with (first | ((with_reducible refine gate_callee (f := 38) rfl ?_); refine goesL_ (some 10) rfl rfl Try.func38 (by kernel_rfl) rfl #[.slice A0 l0.length c0, .int .i64 a1] rfl (by (try simp only [List.map_toArray, List.map_cons, List.map_nil]); first | done | rfl | (simp only [List.length_drop, List.length_take]; rfl)) ?_; (with_reducible refine (impl_AreRankings.calls k _ _ l0 a1 true _ ?side1 ?side2 A3.out).mono ?_); (case side1 => repeat (first | exact HR0.out | (with_reducible refine Kd.C_alloc ?_ _) | (with_reducible refine Kd.C_drewN ?_ _) | (with_reducible refine Kd.C_drew ?_))); (case side2 => exact HC0.out); rintro e w' ⟨rfl, ⟨nd, rfl⟩⟩; refine ⟨_, rfl, ?_⟩))
  go_loopg [13] k (fun kq v13 w' => ∃ (x13_1 : Int), v13 = .int .i64 x13_1 ∧ Aside0 (impl_PairWinner.l0 kq l0 a1 a1 x13_1 = some r) ∧ Aside0 (kq ≤ k) ∧ Drawn0 w w')
  case atStart => exact ⟨(0), (by first | rfl | (simp; done) | (simp [*]; done)), H', ⟨Nat.le_refl _⟩, by repeat (first | exact Drawn0.refl _ | apply Drawn0.step)⟩
  case round =>
   clear H'
   try clear p2
   try clear c3
   try clear c4
   obtain ⟨x13_1, rfl, HA, HK1, ⟨m1, rfl⟩⟩ := hrel
   cases gk with
   | zero => exact absurd HA.out (by simp [impl_PairWinner.l0])
   | succ k1 =>
    have H := HA.out
    clear HA
    simp only [impl_PairWinner.l0] at H
    by_cases c5 : x13_1 < a1
    ·
     rw [if_pos c5] at H
     have c5b0 : decide (x13_1 < a1) = true := decide_eq_true c5
     clear c5
     have H' := Aside0.mk H
     clear H
     go_wp2
     go_loopg [6, 17] k1 (fun kq v6 v17 w' => ∃ (x6_2 : Bool) (x17_2 : Int), v6 = .bool x6_2 ∧ v17 = .int .i64 x17_2 ∧ Aside0 (impl_PairWinner.l1 kq l0 a1 x13_1 x6_2 a1 x13_1 a1 x17_2 = some r) ∧ Aside0 (kq ≤ k1) ∧ Drawn0 w w')
     case atStart => exact ⟨(true), (0), (by first | rfl | (simp; done) | (simp [*]; done)), (by first | rfl | (simp; done) | (simp [*]; done)), H', ⟨Nat.le_refl _⟩, by repeat (first | exact Drawn0.refl _ | apply Drawn0.step)⟩
     case round =>
      clear H'
      try clear p2
      try clear c3
      try clear c4
      try clear c5
      try clear c5b0
      try clear p2
      obtain ⟨x6_2, x17_2, rfl, rfl, HA, HK2, ⟨m2, rfl⟩⟩ := hrel
      cases gk with
      | zero => exact absurd HA.out (by simp [impl_PairWinner.l1])
      | succ k2 =>
       have H := HA.out
       clear HA
       simp only [impl_PairWinner.l1] at H
       by_cases c6 : x17_2 < a1
       ·
        rw [if_pos c6] at H
        have c6b0 : decide (x17_2 < a1) = true := decide_eq_true c6
        clear c6
        by_cases c7 : x6_2 = true
        ·
         subst c7
         have H1 : (if x13_1 = x17_2 then (impl_PairWinner.l1 k2 l0 a1 x13_1 true a1 x13_1 a1 (wrap64 (x17_2 + 1))) else ((impl_Prefer.f k2 l0 x13_1 x17_2).bind fun t481 => ((impl_Prefer.f k2 l0 x17_2 x13_1).bind fun t482 => (impl_PairWinner.l1 k2 l0 a1 x13_1 (decide (t481 > t482)) a1 x13_1 a1 (wrap64 (x17_2 + 1)))))) = some r := by rw [if_pos rfl] at H; exact H
         clear H
         have H := H1
         clear H1
         by_cases c8 : x13_1 = x17_2
         ·
          rw [if_pos c8] at H
          have c8b0 : (x13_1 == x17_2) = true := beq_iff_eq.mpr c8
          have c8b1 : (x13_1 != x17_2) = false := bne_eq_false_iff_eq.mpr c8
          clear c8
          have H' := Aside0.mk H
          clear H
          go_wp2
          go_roundg k2
          case measure => have := HK1.out; have := HK2.out; omega
          case rel => exact ⟨(true), (wrap64 (x17_2 + 1)), (by first | rfl | (simp; done) | (simp [*]; done)), (by first | rfl | (simp; done) | (simp [*]; done)), H', ⟨by have := HK1.out; have := HK2.out; omega⟩, by repeat (first | exact Drawn0.refl _ | apply Drawn0.step)⟩
         ·
          rw [if_neg c8] at H
          have c8b0 : (x13_1 == x17_2) = false := beq_eq_false_iff_ne.mpr c8
          have c8b1 : (x13_1 != x17_2) = true := bne_iff_ne.mpr c8
          replace H := Option.bind_eq_some_iff.mp H
          obtain ⟨t481, A90, H⟩ := H
          replace H : ((impl_Prefer.f k2 l0 x17_2 x13_1).bind fun t482 => (impl_PairWinner.l1 k2 l0 a1 x13_1 (decide (t481 > t482)) a1 x13_1 a1 (wrap64 (x17_2 + 1)))) = some r := H
          have A9 := Aside0.mk A90
          clear A90
          replace H := Option.bind_eq_some_iff.mp H
          obtain ⟨t482, A100, H⟩ := H
          replace H : (impl_PairWinner.l1 k2 l0 a1 x13_1 (decide (t481 > t482)) a1 x13_1 a1 (wrap64 (x17_2 + 1))) = some r := H
          have A10 := Aside0.mk A100
          clear A100
          have H' := Aside0.mk H
          clear H
          go_wp2_with (first | (go_at_call 18; (with_reducible refine (impl_Prefer.calls k2 _ _ l0 x13_1 x17_2 t481 _ ?side1 ?side2 A9.out).mono ?_); (case side1 => repeat (first | exact HR0.out | (with_reducible refine Kd.C_alloc ?_ _) | (with_reducible refine Kd.C_drewN ?_ _) | (with_reducible refine Kd.C_drew ?_))); (case side2 => exact HC0.out); rintro e w' ⟨rfl, ⟨nd, rfl⟩⟩) | (go_at_call 18; (with_reducible refine (impl_Prefer.calls k2 _ _ l0 x17_2 x13_1 t482 _ ?side1 ?side2 A10.out).mono ?_); (case side1 => repeat (first | exact HR0.out | (with_reducible refine Kd.C_alloc ?_ _) | (with_reducible refine Kd.C_drewN ?_ _) | (with_reducible refine Kd.C_drew ?_))); (case side2 => exact HC0.out); rintro e w' ⟨rfl, ⟨nd, rfl⟩⟩))
          go_roundg k2
          case measure => have := HK1.out; have := HK2.out; omega
          case rel => exact ⟨(decide (t481 > t482)), (wrap64 (x17_2 + 1)), (by first | rfl | (simp; done) | (simp [*]; done)), (by first | rfl | (simp; done) | (simp [*]; done)), H', ⟨by have := HK1.out; have := HK2.out; omega⟩, by repeat (first | exact Drawn0.refl _ | apply Drawn0.step)⟩
        ·
         replace c7 := Bool.eq_false_iff.mpr c7
         subst c7
         have H1 : (impl_PairWinner.l1 k2 l0 a1 x13_1 false a1 x13_1 a1 (wrap64 (x17_2 + 1))) = some r := by rw [if_neg (show ¬ (false = true) by decide)] at H; exact H
         clear H
         have H := H1
         clear H1
         have H' := Aside0.mk H
         clear H
         go_wp2
         go_roundg k2
         case measure => have := HK1.out; have := HK2.out; omega
         case rel => exact ⟨(false), (wrap64 (x17_2 + 1)), (by first | rfl | (simp; done) | (simp [*]; done)), (by first | rfl | (simp; done) | (simp [*]; done)), H', ⟨by have := HK1.out; have := HK2.out; omega⟩, by repeat (first | exact Drawn0.refl _ | apply Drawn0.step)⟩
       ·
        rw [if_neg c6] at H
        have c6b0 : decide (x17_2 < a1) = false := decide_eq_false c6
        clear c6
        by_cases c11 : x6_2 = true
        ·
         subst c11
         have H1 : (some x13_1) = some r := by rw [if_pos rfl] at H; exact H
         clear H
         have H := H1
         clear H1
         obtain rfl := Option.some.inj H
         go_wp2
         go_ret
         exact ⟨by first | rfl | (simp; done) | (simp [*]; done), by repeat (first | exact Drawn0.refl _ | apply Drawn0.step)⟩
        ·
         replace c11 := Bool.eq_false_iff.mpr c11
         subst c11
         have H1 : (impl_PairWinner.l0 k2 l0 a1 a1 (wrap64 (x13_1 + 1))) = some r := by rw [if_neg (show ¬ (false = true) by decide)] at H; exact H
         clear H
         have H := H1
         clear H1
         have H' := Aside0.mk H
         clear H
         go_wp2
         go_roundg k2
         case measure => have := HK1.out; have := HK2.out; omega
         case rel => exact ⟨(wrap64 (x13_1 + 1)), (by first | rfl | (simp; done) | (simp [*]; done)), H', ⟨by have := HK1.out; have := HK2.out; omega⟩, by repeat (first | exact Drawn0.refl _ | apply Drawn0.step)⟩
    ·
     rw [if_neg c5] at H
     have c5b0 : decide (x13_1 < a1) = false := decide_eq_false c5
     clear c5
     obtain rfl := Option.some.inj H
     go_wp2
     go_ret
     exact ⟨by first | rfl | (simp; done) | (simp [*]; done), by repeat (first | exact Drawn0.refl _ | apply Drawn0.step)⟩
 ·
  replace c4 := Bool.eq_false_iff.mpr c4
  subst c4
  have H1 : (some (-1)) = some r := by rw [if_neg (show ¬ (false = true) by decide)] at H; exact H
  clear H
  have H := H1
  clear H1
  obtain rfl := Option.some.inj H
  go_enter Try.func50, Try.ntmps50
  go_wp2_with (first | ((with_reducible refine gate_callee (f := 38) rfl ?_); refine goesL_ (some 10) rfl rfl Try.func38 (by kernel_rfl) rfl #[.slice A0 l0.length c0, .int .i64 a1] rfl (by (try simp only [List.map_toArray, List.map_cons, List.map_nil]); first | done | rfl | (simp only [List.length_drop, List.length_take]; rfl)) ?_; (with_reducible refine (impl_AreRankings.calls k _ _ l0 a1 false _ ?side1 ?side2 A3.out).mono ?_); (case side1 => repeat (first | exact HR0.out | (with_reducible refine Kd.C_alloc ?_ _) | (with_reducible refine Kd.C_drewN ?_ _) | (with_reducible refine Kd.C_drew ?_))); (case side2 => exact HC0.out); rintro e w' ⟨rfl, ⟨nd, rfl⟩⟩; refine ⟨_, rfl, ?_⟩))
  go_ret
  exact ⟨by first | rfl | (simp; done) | (simp [*]; done), by repeat (first | exact Drawn0.refl _ | apply Drawn0.step)⟩

end Go.Proofs.Ytcffappipgapbaa.A
