-- Printed for this claim by a program of the session's (the kit's print, with contracts of our own taken in). Lean checks it.
import Derived.Test.YtcffappipgapbaaA0
import Derived.Test.YtcffappipgapbaaA13
import Derived.Test.YtcffappipgapbaaA33
-- squeezed
namespace Go.Proofs.Ytcffappipgapbaa.A
open Go.RowKit Go.Proofs.YtcffappipgapbaaW.PrintWords Go.Proofs.YtcffappipgapbaaW.PrintLast Go.Proofs.YtcffappipgapbaaW.PrintMore
attribute [local go_sem] max2_int min2_int max_two min_two max_three min_three max_four min_four   -- for this text's walks alone
set_option linter.unusedVariables false
set_option linter.unusedSimpArgs false

/-! ### spec_IsRanking: function 74 -/
mutual
def spec_IsRanking.j0 : Nat → List Int → Int → Bool → Option (Bool)
  | 0, _, _, _ => none
  | k + 1, x0, x1, x14 => if x14 = true then (some false) else (spec_IsRanking.l0 k x0 x1 0)
def spec_IsRanking.l0 : Nat → List Int → Int → Int → Option (Bool)
  | 0, _, _, _ => none
  | k + 1, x0, x1, x5 => if x5 < (x0.length : Int) then (if 0 ≤ x5 then ((spec_l1In.f (rd x0 x5) 0 (wrap64 (x1 - 1))).bind fun t332 => (if t332 = true then (if x5 ≤ (x0.length : Int) then ((spec_l4Has.f k (x0.take (x5 : Int).toNat) (rd x0 x5)).bind fun t335 => (if t335 = true then (some false) else (spec_IsRanking.l0 k x0 x1 (wrap64 (x5 + 1))))) else (none)) else (some false))) else (none)) else (some true)
end
def spec_IsRanking.f (k : Nat) (l0 : List Int) (a1 : Int) : Option (Bool) := (spec_l1In.f a1 1 8).bind fun t330 => (if t330 = true then (spec_IsRanking.j0 k l0 a1 ((l0.length : Int) != a1)) else (spec_IsRanking.j0 k l0 a1 true))
theorem spec_IsRanking.mono_l : ∀ k, (∀ y0 y1 y2, LeO (spec_IsRanking.j0 k y0 y1 y2) (spec_IsRanking.j0 (k + 1) y0 y1 y2)) ∧ (∀ y0 y1 y2, LeO (spec_IsRanking.l0 k y0 y1 y2) (spec_IsRanking.l0 (k + 1) y0 y1 y2))
  | 0 => ⟨fun _ _ _ r h => by simp [spec_IsRanking.j0] at h, fun _ _ _ r h => by simp [spec_IsRanking.l0] at h⟩
  | k + 1 => by
    obtain ⟨ih0, ih1⟩ := spec_IsRanking.mono_l k
    refine ⟨?_, ?_⟩
    · intro y0 y1 y2
      unfold spec_IsRanking.j0
      repeat' first
      | (with_reducible exact ih0 _ _ _)
      | (with_reducible exact ih1 _ _ _)
      | (with_reducible exact spec_l4Has.mono _ _ _)
      | (with_reducible exact LeO.refl _)
      | (with_reducible exact LeO.none _)
      | (with_reducible refine LeO.ite ?_ ?_)
      | (with_reducible refine LeO.bind ?_ (fun _ => ?_))
      | exact ih0 _ _ _
      | exact ih1 _ _ _
      | exact spec_l4Has.mono _ _ _
      | exact LeO.none _
      | refine LeO.ite ?_ ?_
      | refine LeO.bind ?_ (fun _ => ?_)
    · intro y0 y1 y2
      unfold spec_IsRanking.l0
      repeat' first
      | (with_reducible exact ih0 _ _ _)
      | (with_reducible exact ih1 _ _ _)
      | (with_reducible exact spec_l4Has.mono _ _ _)
      | (with_reducible exact LeO.refl _)
      | (with_reducible exact LeO.none _)
      | (with_reducible refine LeO.ite ?_ ?_)
      | (with_reducible refine LeO.bind ?_ (fun _ => ?_))
      | exact ih0 _ _ _
      | exact ih1 _ _ _
      | exact spec_l4Has.mono _ _ _
      | exact LeO.none _
      | refine LeO.ite ?_ ?_
      | refine LeO.bind ?_ (fun _ => ?_)
theorem spec_IsRanking.mono : ∀ a0 a1 k, LeO (spec_IsRanking.f k a0 a1) (spec_IsRanking.f (k + 1) a0 a1) := by
  intro a0 a1 k
  obtain ⟨ih0, ih1⟩ := spec_IsRanking.mono_l k
  unfold spec_IsRanking.f
  repeat' first
      | (with_reducible exact ih0 _ _ _)
      | (with_reducible exact ih1 _ _ _)
      | (with_reducible exact spec_l4Has.mono _ _ _)
      | (with_reducible exact LeO.refl _)
      | (with_reducible exact LeO.none _)
      | (with_reducible refine LeO.ite ?_ ?_)
      | (with_reducible refine LeO.bind ?_ (fun _ => ?_))
      | exact ih0 _ _ _
      | exact ih1 _ _ _
      | exact spec_l4Has.mono _ _ _
      | exact LeO.none _
      | refine LeO.ite ?_ ?_
      | refine LeO.bind ?_ (fun _ => ?_)
set_option maxHeartbeats 8000000 in
set_option maxRecDepth 100000 in
theorem spec_IsRanking.calls (k : Nat) (A0 : Option Addr) (c0 : Nat) (l0 : List Int) (a1 : Int) (r : Bool) (w : World) (hr0 : Kd.C (Kd.int .i64) w A0 l0.length l0) (hc0 : l0.length ≤ c0) (h : spec_IsRanking.f k l0 a1 = some r) :
  Calls Try.prog 74 #[.slice A0 l0.length c0, .int .i64 a1] w fun e w' => e = .returned (.bool r) ∧ Drawn0 w w' := by
 have HR0 := Aside0.mk hr0
 have HC0 := Aside0.mk hc0
 clear hr0 hc0
 have H : ((spec_l1In.f a1 1 8).bind fun t330 => (if t330 = true then (spec_IsRanking.j0 k l0 a1 ((l0.length : Int) != a1)) else (spec_IsRanking.j0 k l0 a1 true))) = some r := h
 clear h
 have HC3 := Aside0.mk H
 clear H
 go_enter Try.func74, Try.ntmps74
 go_upto_region 1 with (fail)
 have hw64 : ∀ x : Int, IntKind.i64.wrap x = wrap64 x := by intro x; rw [IntKind.wrap_i64]; unfold wrap64; rfl
 repeat (go_quiet (fail); go_upto_region 1 with (fail))
 try clear hw64
 go_cut [14] (fun v14 wc => ∃ (kq : Nat) (x14_2 : Bool), v14 = .bool x14_2 ∧ Aside0 (spec_IsRanking.j0 kq l0 a1 x14_2 = some r) ∧ Aside0 (kq ≤ k) ∧ Drawn0 w wc)
 case first =>
  have H := HC3.out
  clear HC3
  replace H := Option.bind_eq_some_iff.mp H
  obtain ⟨t330, A40, H⟩ := H
  replace H : (if t330 = true then (spec_IsRanking.j0 k l0 a1 ((l0.length : Int) != a1)) else (spec_IsRanking.j0 k l0 a1 true)) = some r := H
  have A4 := Aside0.mk A40
  clear A40
  by_cases c5 : t330 = true
  ·
   subst c5
   have H1 : (spec_IsRanking.j0 k l0 a1 ((l0.length : Int) != a1)) = some r := by rw [if_pos rfl] at H; exact H
   clear H
   have H := H1
   clear H1
   have H' := Aside0.mk H
   clear H
   go_wp2_with (first | (go_at_call 62; (with_reducible refine (spec_l1In.calls a1 1 8 true _ A4.out).mono ?_); rintro e w' ⟨rfl, ⟨nd, rfl⟩⟩; (try first | exact ⟨rfl, _, World.drewN_drewN _ _ _⟩ | exact ⟨rfl, _, Eq.trans (World.drewN_drewN _ _ _) (congrArg (World.drewN _) (Nat.add_assoc _ _ _))⟩)))
   have hw64 : ∀ x : Int, IntKind.i64.wrap x = wrap64 x := by intro x; rw [IntKind.wrap_i64]; unfold wrap64; rfl
   repeat (go_quiet (first | (go_at_call 62; (with_reducible refine (spec_l1In.calls a1 1 8 true _ A4.out).mono ?_); rintro e w' ⟨rfl, ⟨nd, rfl⟩⟩; (try first | exact ⟨rfl, _, World.drewN_drewN _ _ _⟩ | exact ⟨rfl, _, Eq.trans (World.drewN_drewN _ _ _) (congrArg (World.drewN _) (Nat.add_assoc _ _ _))⟩))); try go_wp2_with (first | (go_at_call 62; (with_reducible refine (spec_l1In.calls a1 1 8 true _ A4.out).mono ?_); rintro e w' ⟨rfl, ⟨nd, rfl⟩⟩; (try first | exact ⟨rfl, _, World.drewN_drewN _ _ _⟩ | exact ⟨rfl, _, Eq.trans (World.drewN_drewN _ _ _) (congrArg (World.drewN _) (Nat.add_assoc _ _ _))⟩))))
   try clear hw64
   go_meet
   case rel => exact ⟨_, (((l0.length : Int) != a1)), (by first | rfl | (simp; done) | (simp [*]; done)), H', ⟨by first | omega | exact Nat.le_refl _⟩, by repeat (first | exact Drawn0.refl _ | apply Drawn0.step)⟩
  ·
   replace c5 := Bool.eq_false_iff.mpr c5
   subst c5
   have H1 : (spec_IsRanking.j0 k l0 a1 true) = some r := by rw [if_neg (show ¬ (false = true) by decide)] at H; exact H
   clear H
   have H := H1
   clear H1
   have H' := Aside0.mk H
   clear H
   go_wp2_with (first | (go_at_call 62; (with_reducible refine (spec_l1In.calls a1 1 8 false _ A4.out).mono ?_); rintro e w' ⟨rfl, ⟨nd, rfl⟩⟩; (try first | exact ⟨rfl, _, World.drewN_drewN _ _ _⟩ | exact ⟨rfl, _, Eq.trans (World.drewN_drewN _ _ _) (congrArg (World.drewN _) (Nat.add_assoc _ _ _))⟩)))
   have hw64 : ∀ x : Int, IntKind.i64.wrap x = wrap64 x := by intro x; rw [IntKind.wrap_i64]; unfold wrap64; rfl
   repeat (go_quiet (first | (go_at_call 62; (with_reducible refine (spec_l1In.calls a1 1 8 false _ A4.out).mono ?_); rintro e w' ⟨rfl, ⟨nd, rfl⟩⟩; (try first | exact ⟨rfl, _, World.drewN_drewN _ _ _⟩ | exact ⟨rfl, _, Eq.trans (World.drewN_drewN _ _ _) (congrArg (World.drewN _) (Nat.add_assoc _ _ _))⟩))); try go_wp2_with (first | (go_at_call 62; (with_reducible refine (spec_l1In.calls a1 1 8 false _ A4.out).mono ?_); rintro e w' ⟨rfl, ⟨nd, rfl⟩⟩; (try first | exact ⟨rfl, _, World.drewN_drewN _ _ _⟩ | exact ⟨rfl, _, Eq.trans (World.drewN_drewN _ _ _) (congrArg (World.drewN _) (Nat.add_assoc _ _ _))⟩))))
   try clear hw64
   go_meet
   case rel => exact ⟨_, (true), (by first | rfl | (simp; done) | (simp [*]; done)), H', ⟨by first | omega | exact Nat.le_refl _⟩, by repeat (first | exact Drawn0.refl _ | apply Drawn0.step)⟩
 case rest =>
  clear HC3
  try clear p2
  try clear c5
  obtain ⟨kq, x14_2, rfl, HA, HJ2, ⟨mc2, rfl⟩⟩ := hcut
  cases kq with
  | zero => exact absurd HA.out (by simp [spec_IsRanking.j0])
  | succ kj2 =>
   have H := HA.out
   clear HA
   simp only [spec_IsRanking.j0] at H
   by_cases c6 : x14_2 = true
   ·
    subst c6
    have H1 : (some false) = some r := by rw [if_pos rfl] at H; exact H
    clear H
    have H := H1
    clear H1
    obtain rfl := Option.some.inj H
    go_wp2
    have hw64 : ∀ x : Int, IntKind.i64.wrap x = wrap64 x := by intro x; rw [IntKind.wrap_i64]; unfold wrap64; rfl
    repeat (go_quiet (fail); try go_wp2)
    try clear hw64
    go_ret
    exact ⟨by first | rfl | (simp; done) | (simp [*]; done), by repeat (first | exact Drawn0.refl _ | apply Drawn0.step)⟩
   ·
    replace c6 := Bool.eq_false_iff.mpr c6
    subst c6
    have H1 : (spec_IsRanking.l0 kj2 l0 a1 0) = some r := by rw [if_neg (show ¬ (false = true) by decide)] at H; exact H
    clear H
    have H := H1
    clear H1
    have H' := Aside0.mk H
    clear H
    go_wp2
    have hw64 : ∀ x : Int, IntKind.i64.wrap x = wrap64 x := by intro x; rw [IntKind.wrap_i64]; unfold wrap64; rfl
    repeat (go_quiet (fail); try go_wp2)
    try clear hw64
    go_loopg [5] kj2 (fun kq v5 w' => ∃ (x5_2 : Int), v5 = .int .i64 x5_2 ∧ Aside0 (spec_IsRanking.l0 kq l0 a1 x5_2 = some r) ∧ Aside0 (kq ≤ kj2) ∧ Drawn0 w w')
    case atStart => exact ⟨(0), (by first | rfl | (simp; done) | (simp [*]; done)), H', ⟨Nat.le_refl _⟩, by repeat (first | exact Drawn0.refl _ | apply Drawn0.step)⟩
    case round =>
     clear H'
     try clear c2
     try clear p2
     try clear c5
     try clear c6
     try clear p2
     obtain ⟨x5_2, rfl, HA, HK2, ⟨m2, rfl⟩⟩ := hrel
     cases gk with
     | zero => exact absurd HA.out (by simp [spec_IsRanking.l0])
     | succ k2 =>
      have H := HA.out
      clear HA
      simp only [spec_IsRanking.l0] at H
      by_cases c7 : x5_2 < (l0.length : Int)
      ·
       rw [if_pos c7] at H
       have c7b0 : decide (x5_2 < (l0.length : Int)) = true := decide_eq_true c7
       clear c7
       by_cases c8 : 0 ≤ x5_2
       ·
        rw [if_pos c8] at H
        have c8b0 : decide (0 ≤ x5_2) = true := decide_eq_true c8
        clear c8
        replace H := Option.bind_eq_some_iff.mp H
        obtain ⟨t332, A90, H⟩ := H
        replace H : (if t332 = true then (if x5_2 ≤ (l0.length : Int) then ((spec_l4Has.f k2 (l0.take (x5_2 : Int).toNat) (rd l0 x5_2)).bind fun t335 => (if t335 = true then (some false) else (spec_IsRanking.l0 k2 l0 a1 (wrap64 (x5_2 + 1))))) else (none)) else (some false)) = some r := H
        have A9 := Aside0.mk A90
        clear A90
        by_cases c10 : t332 = true
        ·
         subst c10
         have H1 : (if x5_2 ≤ (l0.length : Int) then ((spec_l4Has.f k2 (l0.take (x5_2 : Int).toNat) (rd l0 x5_2)).bind fun t335 => (if t335 = true then (some false) else (spec_IsRanking.l0 k2 l0 a1 (wrap64 (x5_2 + 1))))) else (none)) = some r := by rw [if_pos rfl] at H; exact H
         clear H
         have H := H1
         clear H1
         have c11b0 := eq_true (of_decide_eq_true (by first | (with_reducible assumption) | assumption) : 0 ≤ x5_2)
         by_cases c12 : x5_2 ≤ (l0.length : Int)
         ·
          rw [if_pos c12] at H
          have c12b0 := eq_true c12
          have c12b1 : decide (x5_2 ≤ (l0.length : Int)) = true := decide_eq_true c12
          clear c12
          replace H := Option.bind_eq_some_iff.mp H
          obtain ⟨t335, A130, H⟩ := H
          replace H : (if t335 = true then (some false) else (spec_IsRanking.l0 k2 l0 a1 (wrap64 (x5_2 + 1)))) = some r := H
          have A13 := Aside0.mk A130
          clear A130
          by_cases c14 : t335 = true
          ·
           subst c14
           have H1 : (some false) = some r := by rw [if_pos rfl] at H; exact H
           clear H
           have H := H1
           clear H1
           obtain rfl := Option.some.inj H
           have p331 : 0 ≤ (x5_2 : Int) := of_decide_eq_true (by first | (with_reducible assumption) | assumption)
           have q331 : x5_2 < (l0.length : Int) := of_decide_eq_true (by first | (with_reducible assumption) | assumption)
           obtain ⟨ad331, e331, hx331_0⟩ := Kd.at_int HR0.out x5_2 p331 q331
           cases e331
           replace p331 := eq_true p331
           replace q331 := eq_true q331
           go_wp2_with (first | (go_at_call 62; (with_reducible refine (spec_l1In.calls (rd l0 x5_2) 0 (wrap64 (a1 - 1)) true _ A9.out).mono ?_); rintro e w' ⟨rfl, ⟨nd, rfl⟩⟩; (try first | exact ⟨rfl, _, World.drewN_drewN _ _ _⟩ | exact ⟨rfl, _, Eq.trans (World.drewN_drewN _ _ _) (congrArg (World.drewN _) (Nat.add_assoc _ _ _))⟩); obtain ⟨i015, hi015, _, hsz15, _⟩ := info_parts info3; obtain ⟨hcut15, hA15, hC15⟩ := print_take_of (P := Try.prog) (Value.int .i64) 0 37 3 .i64 Try.underlying37 hi015 hsz15 (some ad331) c0 l0 x5_2 (of_decide_eq_true (by first | (with_reducible assumption) | assumption)) (of_decide_eq_true (by first | (with_reducible assumption) | assumption)) HC0.out; have HR333 := Aside0.mk (Kd.C_of_reads (h1 := fun _ => rfl) (hA15 _ (Kd.reads_of_C HR0.out))); have HC333 := Aside0.mk hC15; clear hA15 hC15 hi015 hsz15; have p334 : 0 ≤ (x5_2 : Int) := of_decide_eq_true (by first | (with_reducible assumption) | assumption); have q334 : x5_2 < (l0.length : Int) := of_decide_eq_true (by first | (with_reducible assumption) | assumption); obtain ⟨ad334, e334, hx334_0⟩ := Kd.at_int HR0.out x5_2 p334 q334; obtain rfl : ad331 = ad334 := (by injection e334); replace p334 := eq_true p334; replace q334 := eq_true q334) | (go_at_call 69; (first | (with_reducible refine (spec_l4Has.calls k2 _ _ (l0.take (x5_2 : Int).toNat) (rd l0 x5_2) true _ ?side1 ?side2 A13.out).mono ?_) | (refine (calls_of_args ?ea (spec_l4Has.calls k2 (some ad331) c0 (l0.take (x5_2 : Int).toNat) (rd l0 x5_2) true _ ?side1 ?side2 A13.out)).mono ?_; (case ea => (rw [List.length_take, Nat.min_eq_left (by first | omega | (have h1_ : (x5_2 : Int) < (l0.length : Int) := of_eq_true (by first | (with_reducible assumption) | assumption); omega) | (have h1_ : (x5_2 : Int) ≤ (l0.length : Int) := of_eq_true (by first | (with_reducible assumption) | assumption); omega) | (have h1_ : (x5_2 : Int) < (l0.length : Int) := of_decide_eq_true (by first | (with_reducible assumption) | assumption); omega) | (have h1_ : (x5_2 : Int) ≤ (l0.length : Int) := of_decide_eq_true (by first | (with_reducible assumption) | assumption); omega))])))); (case side1 => repeat (first | exact HR333.out | (with_reducible refine Kd.C_alloc ?_ _) | (with_reducible refine Kd.C_drewN ?_ _) | (with_reducible refine Kd.C_drew ?_))); (case side2 => exact HC333.out); rintro e w' ⟨rfl, ⟨nd, rfl⟩⟩; (try first | exact ⟨rfl, _, World.drewN_drewN _ _ _⟩ | exact ⟨rfl, _, Eq.trans (World.drewN_drewN _ _ _) (congrArg (World.drewN _) (Nat.add_assoc _ _ _))⟩)))
           have hw64 : ∀ x : Int, IntKind.i64.wrap x = wrap64 x := by intro x; rw [IntKind.wrap_i64]; unfold wrap64; rfl
           repeat (go_quiet (first | (go_at_call 62; (with_reducible refine (spec_l1In.calls (rd l0 x5_2) 0 (wrap64 (a1 - 1)) true _ A9.out).mono ?_); rintro e w' ⟨rfl, ⟨nd, rfl⟩⟩; (try first | exact ⟨rfl, _, World.drewN_drewN _ _ _⟩ | exact ⟨rfl, _, Eq.trans (World.drewN_drewN _ _ _) (congrArg (World.drewN _) (Nat.add_assoc _ _ _))⟩); obtain ⟨i015, hi015, _, hsz15, _⟩ := info_parts info3; obtain ⟨hcut15, hA15, hC15⟩ := print_take_of (P := Try.prog) (Value.int .i64) 0 37 3 .i64 Try.underlying37 hi015 hsz15 (some ad331) c0 l0 x5_2 (of_decide_eq_true (by first | (with_reducible assumption) | assumption)) (of_decide_eq_true (by first | (with_reducible assumption) | assumption)) HC0.out; have HR333 := Aside0.mk (Kd.C_of_reads (h1 := fun _ => rfl) (hA15 _ (Kd.reads_of_C HR0.out))); have HC333 := Aside0.mk hC15; clear hA15 hC15 hi015 hsz15; have p334 : 0 ≤ (x5_2 : Int) := of_decide_eq_true (by first | (with_reducible assumption) | assumption); have q334 : x5_2 < (l0.length : Int) := of_decide_eq_true (by first | (with_reducible assumption) | assumption); obtain ⟨ad334, e334, hx334_0⟩ := Kd.at_int HR0.out x5_2 p334 q334; obtain rfl : ad331 = ad334 := (by injection e334); replace p334 := eq_true p334; replace q334 := eq_true q334) | (go_at_call 69; (first | (with_reducible refine (spec_l4Has.calls k2 _ _ (l0.take (x5_2 : Int).toNat) (rd l0 x5_2) true _ ?side1 ?side2 A13.out).mono ?_) | (refine (calls_of_args ?ea (spec_l4Has.calls k2 (some ad331) c0 (l0.take (x5_2 : Int).toNat) (rd l0 x5_2) true _ ?side1 ?side2 A13.out)).mono ?_; (case ea => (rw [List.length_take, Nat.min_eq_left (by first | omega | (have h1_ : (x5_2 : Int) < (l0.length : Int) := of_eq_true (by first | (with_reducible assumption) | assumption); omega) | (have h1_ : (x5_2 : Int) ≤ (l0.length : Int) := of_eq_true (by first | (with_reducible assumption) | assumption); omega) | (have h1_ : (x5_2 : Int) < (l0.length : Int) := of_decide_eq_true (by first | (with_reducible assumption) | assumption); omega) | (have h1_ : (x5_2 : Int) ≤ (l0.length : Int) := of_decide_eq_true (by first | (with_reducible assumption) | assumption); omega))])))); (case side1 => repeat (first | exact HR333.out | (with_reducible refine Kd.C_alloc ?_ _) | (with_reducible refine Kd.C_drewN ?_ _) | (with_reducible refine Kd.C_drew ?_))); (case side2 => exact HC333.out); rintro e w' ⟨rfl, ⟨nd, rfl⟩⟩; (try first | exact ⟨rfl, _, World.drewN_drewN _ _ _⟩ | exact ⟨rfl, _, Eq.trans (World.drewN_drewN _ _ _) (congrArg (World.drewN _) (Nat.add_assoc _ _ _))⟩))); try go_wp2_with (first | (go_at_call 62; (with_reducible refine (spec_l1In.calls (rd l0 x5_2) 0 (wrap64 (a1 - 1)) true _ A9.out).mono ?_); rintro e w' ⟨rfl, ⟨nd, rfl⟩⟩; (try first | exact ⟨rfl, _, World.drewN_drewN _ _ _⟩ | exact ⟨rfl, _, Eq.trans (World.drewN_drewN _ _ _) (congrArg (World.drewN _) (Nat.add_assoc _ _ _))⟩); obtain ⟨i015, hi015, _, hsz15, _⟩ := info_parts info3; obtain ⟨hcut15, hA15, hC15⟩ := print_take_of (P := Try.prog) (Value.int .i64) 0 37 3 .i64 Try.underlying37 hi015 hsz15 (some ad331) c0 l0 x5_2 (of_decide_eq_true (by first | (with_reducible assumption) | assumption)) (of_decide_eq_true (by first | (with_reducible assumption) | assumption)) HC0.out; have HR333 := Aside0.mk (Kd.C_of_reads (h1 := fun _ => rfl) (hA15 _ (Kd.reads_of_C HR0.out))); have HC333 := Aside0.mk hC15; clear hA15 hC15 hi015 hsz15; have p334 : 0 ≤ (x5_2 : Int) := of_decide_eq_true (by first | (with_reducible assumption) | assumption); have q334 : x5_2 < (l0.length : Int) := of_decide_eq_true (by first | (with_reducible assumption) | assumption); obtain ⟨ad334, e334, hx334_0⟩ := Kd.at_int HR0.out x5_2 p334 q334; obtain rfl : ad331 = ad334 := (by injection e334); replace p334 := eq_true p334; replace q334 := eq_true q334) | (go_at_call 69; (first | (with_reducible refine (spec_l4Has.calls k2 _ _ (l0.take (x5_2 : Int).toNat) (rd l0 x5_2) true _ ?side1 ?side2 A13.out).mono ?_) | (refine (calls_of_args ?ea (spec_l4Has.calls k2 (some ad331) c0 (l0.take (x5_2 : Int).toNat) (rd l0 x5_2) true _ ?side1 ?side2 A13.out)).mono ?_; (case ea => (rw [List.length_take, Nat.min_eq_left (by first | omega | (have h1_ : (x5_2 : Int) < (l0.length : Int) := of_eq_true (by first | (with_reducible assumption) | assumption); omega) | (have h1_ : (x5_2 : Int) ≤ (l0.length : Int) := of_eq_true (by first | (with_reducible assumption) | assumption); omega) | (have h1_ : (x5_2 : Int) < (l0.length : Int) := of_decide_eq_true (by first | (with_reducible assumption) | assumption); omega) | (have h1_ : (x5_2 : Int) ≤ (l0.length : Int) := of_decide_eq_true (by first | (with_reducible assumption) | assumption); omega))])))); (case side1 => repeat (first | exact HR333.out | (with_reducible refine Kd.C_alloc ?_ _) | (with_reducible refine Kd.C_drewN ?_ _) | (with_reducible refine Kd.C_drew ?_))); (case side2 => exact HC333.out); rintro e w' ⟨rfl, ⟨nd, rfl⟩⟩; (try first | exact ⟨rfl, _, World.drewN_drewN _ _ _⟩ | exact ⟨rfl, _, Eq.trans (World.drewN_drewN _ _ _) (congrArg (World.drewN _) (Nat.add_assoc _ _ _))⟩))))
           try clear hw64
           go_ret
           exact ⟨by first | rfl | (simp; done) | (simp [*]; done), by repeat (first | exact Drawn0.refl _ | apply Drawn0.step)⟩
          ·
           replace c14 := Bool.eq_false_iff.mpr c14
           subst c14
           have H1 : (spec_IsRanking.l0 k2 l0 a1 (wrap64 (x5_2 + 1))) = some r := by rw [if_neg (show ¬ (false = true) by decide)] at H; exact H
           clear H
           have H := H1
           clear H1
           have H' := Aside0.mk H
           clear H
           have p331 : 0 ≤ (x5_2 : Int) := of_decide_eq_true (by first | (with_reducible assumption) | assumption)
           have q331 : x5_2 < (l0.length : Int) := of_decide_eq_true (by first | (with_reducible assumption) | assumption)
           obtain ⟨ad331, e331, hx331_0⟩ := Kd.at_int HR0.out x5_2 p331 q331
           cases e331
           replace p331 := eq_true p331
           replace q331 := eq_true q331
           go_wp2_with (first | (go_at_call 62; (with_reducible refine (spec_l1In.calls (rd l0 x5_2) 0 (wrap64 (a1 - 1)) true _ A9.out).mono ?_); rintro e w' ⟨rfl, ⟨nd, rfl⟩⟩; (try first | exact ⟨rfl, _, World.drewN_drewN _ _ _⟩ | exact ⟨rfl, _, Eq.trans (World.drewN_drewN _ _ _) (congrArg (World.drewN _) (Nat.add_assoc _ _ _))⟩); obtain ⟨i016, hi016, _, hsz16, _⟩ := info_parts info3; obtain ⟨hcut16, hA16, hC16⟩ := print_take_of (P := Try.prog) (Value.int .i64) 0 37 3 .i64 Try.underlying37 hi016 hsz16 (some ad331) c0 l0 x5_2 (of_decide_eq_true (by first | (with_reducible assumption) | assumption)) (of_decide_eq_true (by first | (with_reducible assumption) | assumption)) HC0.out; have HR333 := Aside0.mk (Kd.C_of_reads (h1 := fun _ => rfl) (hA16 _ (Kd.reads_of_C HR0.out))); have HC333 := Aside0.mk hC16; clear hA16 hC16 hi016 hsz16; have p334 : 0 ≤ (x5_2 : Int) := of_decide_eq_true (by first | (with_reducible assumption) | assumption); have q334 : x5_2 < (l0.length : Int) := of_decide_eq_true (by first | (with_reducible assumption) | assumption); obtain ⟨ad334, e334, hx334_0⟩ := Kd.at_int HR0.out x5_2 p334 q334; obtain rfl : ad331 = ad334 := (by injection e334); replace p334 := eq_true p334; replace q334 := eq_true q334) | (go_at_call 69; (first | (with_reducible refine (spec_l4Has.calls k2 _ _ (l0.take (x5_2 : Int).toNat) (rd l0 x5_2) false _ ?side1 ?side2 A13.out).mono ?_) | (refine (calls_of_args ?ea (spec_l4Has.calls k2 (some ad331) c0 (l0.take (x5_2 : Int).toNat) (rd l0 x5_2) false _ ?side1 ?side2 A13.out)).mono ?_; (case ea => (rw [List.length_take, Nat.min_eq_left (by first | omega | (have h1_ : (x5_2 : Int) < (l0.length : Int) := of_eq_true (by first | (with_reducible assumption) | assumption); omega) | (have h1_ : (x5_2 : Int) ≤ (l0.length : Int) := of_eq_true (by first | (with_reducible assumption) | assumption); omega) | (have h1_ : (x5_2 : Int) < (l0.length : Int) := of_decide_eq_true (by first | (with_reducible assumption) | assumption); omega) | (have h1_ : (x5_2 : Int) ≤ (l0.length : Int) := of_decide_eq_true (by first | (with_reducible assumption) | assumption); omega))])))); (case side1 => repeat (first | exact HR333.out | (with_reducible refine Kd.C_alloc ?_ _) | (with_reducible refine Kd.C_drewN ?_ _) | (with_reducible refine Kd.C_drew ?_))); (case side2 => exact HC333.out); rintro e w' ⟨rfl, ⟨nd, rfl⟩⟩; (try first | exact ⟨rfl, _, World.drewN_drewN _ _ _⟩ | exact ⟨rfl, _, Eq.trans (World.drewN_drewN _ _ _) (congrArg (World.drewN _) (Nat.add_assoc _ _ _))⟩)))
           have hw64 : ∀ x : Int, IntKind.i64.wrap x = wrap64 x := by intro x; rw [IntKind.wrap_i64]; unfold wrap64; rfl
           repeat (go_quiet (first | (go_at_call 62; (with_reducible refine (spec_l1In.calls (rd l0 x5_2) 0 (wrap64 (a1 - 1)) true _ A9.out).mono ?_); rintro e w' ⟨rfl, ⟨nd, rfl⟩⟩; (try first | exact ⟨rfl, _, World.drewN_drewN _ _ _⟩ | exact ⟨rfl, _, Eq.trans (World.drewN_drewN _ _ _) (congrArg (World.drewN _) (Nat.add_assoc _ _ _))⟩); obtain ⟨i016, hi016, _, hsz16, _⟩ := info_parts info3; obtain ⟨hcut16, hA16, hC16⟩ := print_take_of (P := Try.prog) (Value.int .i64) 0 37 3 .i64 Try.underlying37 hi016 hsz16 (some ad331) c0 l0 x5_2 (of_decide_eq_true (by first | (with_reducible assumption) | assumption)) (of_decide_eq_true (by first | (with_reducible assumption) | assumption)) HC0.out; have HR333 := Aside0.mk (Kd.C_of_reads (h1 := fun _ => rfl) (hA16 _ (Kd.reads_of_C HR0.out))); have HC333 := Aside0.mk hC16; clear hA16 hC16 hi016 hsz16; have p334 : 0 ≤ (x5_2 : Int) := of_decide_eq_true (by first | (with_reducible assumption) | assumption); have q334 : x5_2 < (l0.length : Int) := of_decide_eq_true (by first | (with_reducible assumption) | assumption); obtain ⟨ad334, e334, hx334_0⟩ := Kd.at_int HR0.out x5_2 p334 q334; obtain rfl : ad331 = ad334 := (by injection e334); replace p334 := eq_true p334; replace q334 := eq_true q334) | (go_at_call 69; (first | (with_reducible refine (spec_l4Has.calls k2 _ _ (l0.take (x5_2 : Int).toNat) (rd l0 x5_2) false _ ?side1 ?side2 A13.out).mono ?_) | (refine (calls_of_args ?ea (spec_l4Has.calls k2 (some ad331) c0 (l0.take (x5_2 : Int).toNat) (rd l0 x5_2) false _ ?side1 ?side2 A13.out)).mono ?_; (case ea => (rw [List.length_take, Nat.min_eq_left (by first | omega | (have h1_ : (x5_2 : Int) < (l0.length : Int) := of_eq_true (by first | (with_reducible assumption) | assumption); omega) | (have h1_ : (x5_2 : Int) ≤ (l0.length : Int) := of_eq_true (by first | (with_reducible assumption) | assumption); omega) | (have h1_ : (x5_2 : Int) < (l0.length : Int) := of_decide_eq_true (by first | (with_reducible assumption) | assumption); omega) | (have h1_ : (x5_2 : Int) ≤ (l0.length : Int) := of_decide_eq_true (by first | (with_reducible assumption) | assumption); omega))])))); (case side1 => repeat (first | exact HR333.out | (with_reducible refine Kd.C_alloc ?_ _) | (with_reducible refine Kd.C_drewN ?_ _) | (with_reducible refine Kd.C_drew ?_))); (case side2 => exact HC333.out); rintro e w' ⟨rfl, ⟨nd, rfl⟩⟩; (try first | exact ⟨rfl, _, World.drewN_drewN _ _ _⟩ | exact ⟨rfl, _, Eq.trans (World.drewN_drewN _ _ _) (congrArg (World.drewN _) (Nat.add_assoc _ _ _))⟩))); try go_wp2_with (first | (go_at_call 62; (with_reducible refine (spec_l1In.calls (rd l0 x5_2) 0 (wrap64 (a1 - 1)) true _ A9.out).mono ?_); rintro e w' ⟨rfl, ⟨nd, rfl⟩⟩; (try first | exact ⟨rfl, _, World.drewN_drewN _ _ _⟩ | exact ⟨rfl, _, Eq.trans (World.drewN_drewN _ _ _) (congrArg (World.drewN _) (Nat.add_assoc _ _ _))⟩); obtain ⟨i016, hi016, _, hsz16, _⟩ := info_parts info3; obtain ⟨hcut16, hA16, hC16⟩ := print_take_of (P := Try.prog) (Value.int .i64) 0 37 3 .i64 Try.underlying37 hi016 hsz16 (some ad331) c0 l0 x5_2 (of_decide_eq_true (by first | (with_reducible assumption) | assumption)) (of_decide_eq_true (by first | (with_reducible assumption) | assumption)) HC0.out; have HR333 := Aside0.mk (Kd.C_of_reads (h1 := fun _ => rfl) (hA16 _ (Kd.reads_of_C HR0.out))); have HC333 := Aside0.mk hC16; clear hA16 hC16 hi016 hsz16; have p334 : 0 ≤ (x5_2 : Int) := of_decide_eq_true (by first | (with_reducible assumption) | assumption); have q334 : x5_2 < (l0.length : Int) := of_decide_eq_true (by first | (with_reducible assumption) | assumption); obtain ⟨ad334, e334, hx334_0⟩ := Kd.at_int HR0.out x5_2 p334 q334; obtain rfl : ad331 = ad334 := (by injection e334); replace p334 := eq_true p334; replace q334 := eq_true q334) | (go_at_call 69; (first | (with_reducible refine (spec_l4Has.calls k2 _ _ (l0.take (x5_2 : Int).toNat) (rd l0 x5_2) false _ ?side1 ?side2 A13.out).mono ?_) | (refine (calls_of_args ?ea (spec_l4Has.calls k2 (some ad331) c0 (l0.take (x5_2 : Int).toNat) (rd l0 x5_2) false _ ?side1 ?side2 A13.out)).mono ?_; (case ea => (rw [List.length_take, Nat.min_eq_left (by first | omega | (have h1_ : (x5_2 : Int) < (l0.length : Int) := of_eq_true (by first | (with_reducible assumption) | assumption); omega) | (have h1_ : (x5_2 : Int) ≤ (l0.length : Int) := of_eq_true (by first | (with_reducible assumption) | assumption); omega) | (have h1_ : (x5_2 : Int) < (l0.length : Int) := of_decide_eq_true (by first | (with_reducible assumption) | assumption); omega) | (have h1_ : (x5_2 : Int) ≤ (l0.length : Int) := of_decide_eq_true (by first | (with_reducible assumption) | assumption); omega))])))); (case side1 => repeat (first | exact HR333.out | (with_reducible refine Kd.C_alloc ?_ _) | (with_reducible refine Kd.C_drewN ?_ _) | (with_reducible refine Kd.C_drew ?_))); (case side2 => exact HC333.out); rintro e w' ⟨rfl, ⟨nd, rfl⟩⟩; (try first | exact ⟨rfl, _, World.drewN_drewN _ _ _⟩ | exact ⟨rfl, _, Eq.trans (World.drewN_drewN _ _ _) (congrArg (World.drewN _) (Nat.add_assoc _ _ _))⟩))))
           try clear hw64
           go_roundg k2
           case measure => have := HJ2.out; have := HK2.out; omega
           case rel => exact ⟨(wrap64 (x5_2 + 1)), (by first | rfl | (simp; done) | (simp [*]; done)), H', ⟨by have := HJ2.out; have := HK2.out; omega⟩, by repeat (first | exact Drawn0.refl _ | apply Drawn0.step)⟩
         ·
          rw [if_neg c12] at H
          exact absurd H (by simp)
        ·
         replace c10 := Bool.eq_false_iff.mpr c10
         subst c10
         have H1 : (some false) = some r := by rw [if_neg (show ¬ (false = true) by decide)] at H; exact H
         clear H
         have H := H1
         clear H1
         obtain rfl := Option.some.inj H
         have p331 : 0 ≤ (x5_2 : Int) := of_decide_eq_true (by first | (with_reducible assumption) | assumption)
         have q331 : x5_2 < (l0.length : Int) := of_decide_eq_true (by first | (with_reducible assumption) | assumption)
         obtain ⟨ad331, e331, hx331_0⟩ := Kd.at_int HR0.out x5_2 p331 q331
         cases e331
         replace p331 := eq_true p331
         replace q331 := eq_true q331
         go_wp2_with (first | (go_at_call 62; (with_reducible refine (spec_l1In.calls (rd l0 x5_2) 0 (wrap64 (a1 - 1)) false _ A9.out).mono ?_); rintro e w' ⟨rfl, ⟨nd, rfl⟩⟩; (try first | exact ⟨rfl, _, World.drewN_drewN _ _ _⟩ | exact ⟨rfl, _, Eq.trans (World.drewN_drewN _ _ _) (congrArg (World.drewN _) (Nat.add_assoc _ _ _))⟩)))
         have hw64 : ∀ x : Int, IntKind.i64.wrap x = wrap64 x := by intro x; rw [IntKind.wrap_i64]; unfold wrap64; rfl
         repeat (go_quiet (first | (go_at_call 62; (with_reducible refine (spec_l1In.calls (rd l0 x5_2) 0 (wrap64 (a1 - 1)) false _ A9.out).mono ?_); rintro e w' ⟨rfl, ⟨nd, rfl⟩⟩; (try first | exact ⟨rfl, _, World.drewN_drewN _ _ _⟩ | exact ⟨rfl, _, Eq.trans (World.drewN_drewN _ _ _) (congrArg (World.drewN _) (Nat.add_assoc _ _ _))⟩))); try go_wp2_with (first | (go_at_call 62; (with_reducible refine (spec_l1In.calls (rd l0 x5_2) 0 (wrap64 (a1 - 1)) false _ A9.out).mono ?_); rintro e w' ⟨rfl, ⟨nd, rfl⟩⟩; (try first | exact ⟨rfl, _, World.drewN_drewN _ _ _⟩ | exact ⟨rfl, _, Eq.trans (World.drewN_drewN _ _ _) (congrArg (World.drewN _) (Nat.add_assoc _ _ _))⟩))))
         try clear hw64
         go_ret
         exact ⟨by first | rfl | (simp; done) | (simp [*]; done), by repeat (first | exact Drawn0.refl _ | apply Drawn0.step)⟩
       ·
        rw [if_neg c8] at H
        exact absurd H (by simp)
      ·
       rw [if_neg c7] at H
       have c7b0 : decide (x5_2 < (l0.length : Int)) = false := decide_eq_false c7
       clear c7
       obtain rfl := Option.some.inj H
       go_wp2
       have hw64 : ∀ x : Int, IntKind.i64.wrap x = wrap64 x := by intro x; rw [IntKind.wrap_i64]; unfold wrap64; rfl
       repeat (go_quiet (fail); try go_wp2)
       try clear hw64
       go_ret
       exact ⟨by first | rfl | (simp; done) | (simp [*]; done), by repeat (first | exact Drawn0.refl _ | apply Drawn0.step)⟩

end Go.Proofs.Ytcffappipgapbaa.A
