-- Printed for this claim by a program of the session's (the kit's print, with contracts of our own taken in). Lean checks it.
import Derived.Test.YtcffappipgapbaaA0
import Derived.Test.YtcffappipgapbaaA22
import Derived.Test.YtcffappipgapbaaA23
import Derived.Test.YtcffappipgapbaaA43
import Derived.Test.YtcffappipgapbaaA44
-- squeezed
namespace Go.Proofs.Ytcffappipgapbaa.A
open Go.RowKit Go.Proofs.YtcffappipgapbaaW.PrintWords Go.Proofs.YtcffappipgapbaaW.PrintLast Go.Proofs.YtcffappipgapbaaW.PrintMore
attribute [local go_sem] max2_int min2_int max_two min_two max_three min_three max_four min_four   -- for this text's walks alone
set_option linter.unusedVariables false
set_option linter.unusedSimpArgs false

/-! ### spec_Decision: function 44 -/
mutual
def spec_Decision.j0 : Nat → List (S63) → Bool → Option (Int)
  | 0, _, _ => none
  | k + 1, x0, x11 => if x11 = true then (some 0) else ((spec_VotesFor.f k x0 1).bind fun t412 => ((spec_VotesFor.f k x0 2).bind fun t413 => (if (wrap64 (t412 - t413)) = 0 then ((spec_SumFor.f k x0 1).bind fun t414 => ((spec_SumFor.f k x0 2).bind fun t415 => (spec_Decision.j1 k x0 (wrap64 (t414 - t415))))) else (spec_Decision.j1 k x0 (wrap64 (t412 - t413))))))
def spec_Decision.j1 : Nat → List (S63) → Int → Option (Int)
  | 0, _, _ => none
  | k + 1, x0, x3 => if x3 > 0 then (some 1) else (if x3 < 0 then (some 2) else (if 0 < (x0.length : Int) then ((spec_l16Of.f ((rd_T63 x0 0).f0) ((rd_T63 x0 0).f1) ((rd_T63 x0 0).f2)).bind fun t417 => (some t417)) else (none)))
end
def spec_Decision.f (k : Nat) (l0 : List (S63)) : Option (Int) := if (l0.length : Int) = 0 then (spec_Decision.j0 k l0 true) else ((spec_AreBallots.f k l0).bind fun t411 => (spec_Decision.j0 k l0 (!t411)))
theorem spec_Decision.mono_l : ∀ k, (∀ y0 y1, LeO (spec_Decision.j0 k y0 y1) (spec_Decision.j0 (k + 1) y0 y1)) ∧ (∀ y0 y1, LeO (spec_Decision.j1 k y0 y1) (spec_Decision.j1 (k + 1) y0 y1))
  | 0 => ⟨fun _ _ r h => by simp [spec_Decision.j0] at h, fun _ _ r h => by simp [spec_Decision.j1] at h⟩
  | k + 1 => by
    obtain ⟨ih0, ih1⟩ := spec_Decision.mono_l k
    refine ⟨?_, ?_⟩
    · intro y0 y1
      unfold spec_Decision.j0
      repeat' first
      | (with_reducible exact ih0 _ _)
      | (with_reducible exact ih1 _ _)
      | (with_reducible exact spec_AreBallots.mono _ _)
      | (with_reducible exact spec_SumFor.mono _ _ _)
      | (with_reducible exact spec_VotesFor.mono _ _ _)
      | (with_reducible exact LeO.refl _)
      | (with_reducible exact LeO.none _)
      | (with_reducible refine LeO.ite ?_ ?_)
      | (with_reducible refine LeO.bind ?_ (fun _ => ?_))
      | exact ih0 _ _
      | exact ih1 _ _
      | exact spec_AreBallots.mono _ _
      | exact spec_SumFor.mono _ _ _
      | exact spec_VotesFor.mono _ _ _
      | exact LeO.none _
      | refine LeO.ite ?_ ?_
      | refine LeO.bind ?_ (fun _ => ?_)
    · intro y0 y1
      unfold spec_Decision.j1
      repeat' first
      | (with_reducible exact ih0 _ _)
      | (with_reducible exact ih1 _ _)
      | (with_reducible exact spec_AreBallots.mono _ _)
      | (with_reducible exact spec_SumFor.mono _ _ _)
      | (with_reducible exact spec_VotesFor.mono _ _ _)
      | (with_reducible exact LeO.refl _)
      | (with_reducible exact LeO.none _)
      | (with_reducible refine LeO.ite ?_ ?_)
      | (with_reducible refine LeO.bind ?_ (fun _ => ?_))
      | exact ih0 _ _
      | exact ih1 _ _
      | exact spec_AreBallots.mono _ _
      | exact spec_SumFor.mono _ _ _
      | exact spec_VotesFor.mono _ _ _
      | exact LeO.none _
      | refine LeO.ite ?_ ?_
      | refine LeO.bind ?_ (fun _ => ?_)
theorem spec_Decision.mono : ∀ a0 k, LeO (spec_Decision.f k a0) (spec_Decision.f (k + 1) a0) := by
  intro a0 k
  obtain ⟨ih0, ih1⟩ := spec_Decision.mono_l k
  unfold spec_Decision.f
  repeat' first
      | (with_reducible exact ih0 _ _)
      | (with_reducible exact ih1 _ _)
      | (with_reducible exact spec_AreBallots.mono _ _)
      | (with_reducible exact spec_SumFor.mono _ _ _)
      | (with_reducible exact spec_VotesFor.mono _ _ _)
      | (with_reducible exact LeO.refl _)
      | (with_reducible exact LeO.none _)
      | (with_reducible refine LeO.ite ?_ ?_)
      | (with_reducible refine LeO.bind ?_ (fun _ => ?_))
      | exact ih0 _ _
      | exact ih1 _ _
      | exact spec_AreBallots.mono _ _
      | exact spec_SumFor.mono _ _ _
      | exact spec_VotesFor.mono _ _ _
      | exact LeO.none _
      | refine LeO.ite ?_ ?_
      | refine LeO.bind ?_ (fun _ => ?_)
set_option maxHeartbeats 8000000 in
set_option maxRecDepth 100000 in
theorem spec_Decision.calls (k : Nat) (A0 : Option Addr) (c0 : Nat) (l0 : List (S63)) (r : Int) (w : World) (hr0 : Kd.C k63 w A0 l0.length l0) (hc0 : l0.length ≤ c0) (h : spec_Decision.f k l0 = some r) :
  Calls Try.prog 44 #[.slice A0 l0.length c0] w fun e w' => e = .returned (.int .i64 r) ∧ Below w.heap.size w w' := by
 have hu63 := Try.underlying63
 have HR0 := Aside0.mk hr0
 have HC0 := Aside0.mk hc0
 clear hr0 hc0
 have HB := Aside0.mk (Below.refl w.heap.size w)
 have H : (if (l0.length : Int) = 0 then (spec_Decision.j0 k l0 true) else ((spec_AreBallots.f k l0).bind fun t411 => (spec_Decision.j0 k l0 (!t411)))) = some r := h
 clear h
 have HC2 := Aside0.mk H
 clear H
 go_enter Try.func44, Try.ntmps44
 go_upto_region 1 with (fail)
 go_cut [11] (fun v11 wc => ∃ (kq : Nat) (x11_1 : Bool), v11 = .bool x11_1 ∧ Aside0 (spec_Decision.j0 kq l0 x11_1 = some r) ∧ Aside0 (kq ≤ k) ∧ Aside0 (Below w.heap.size w wc))
 case first =>
  have H := HC2.out
  clear HC2
  by_cases c3 : (l0.length : Int) = 0
  ·
   rw [if_pos c3] at H
   have c3b0 : ((l0.length : Int) == 0) = true := beq_iff_eq.mpr c3
   have c3b1 : ((l0.length : Int) != 0) = false := bne_eq_false_iff_eq.mpr c3
   clear c3
   (first | rw [c3b0] | (simp only [i64_w, i32_w]; rw [c3b0]) | skip)
   have H' := Aside0.mk H
   clear H
   go_wp2
   go_meet
   case rel => exact ⟨_, (true), (by first | rfl | (simp; done) | (simp [*]; done)), H', ⟨by first | omega | exact Nat.le_refl _⟩, ⟨by repeat (first | (with_reducible first | exact HB.out | apply below_alloc | apply pw_below_drewN | apply below_drew1) | exact HB.out)⟩⟩
  ·
   rw [if_neg c3] at H
   have c3b0 : ((l0.length : Int) == 0) = false := beq_eq_false_iff_ne.mpr c3
   have c3b1 : ((l0.length : Int) != 0) = true := bne_iff_ne.mpr c3
   have c3b2 : ¬ (l0 = []) := fun h_ => c3 (by rw [h_]; rfl)
   (first | rw [c3b0] | (simp only [i64_w, i32_w]; rw [c3b0]) | skip)
   replace H := Option.bind_eq_some_iff.mp H
   obtain ⟨t411, A40, H⟩ := H
   replace H : (spec_Decision.j0 k l0 (!t411)) = some r := H
   have A4 := Aside0.mk A40
   clear A40
   have H' := Aside0.mk H
   clear H
   go_wp2_with (first | (go_at_call 65; (with_reducible refine (spec_AreBallots.calls k _ _ l0 t411 _ ?side1 ?side2 A4.out).mono ?_); (case side1 => repeat (first | exact (Kd.C_below HR0.out HB.out) | (with_reducible refine Kd.C_alloc ?_ _) | (with_reducible refine Kd.C_drewN ?_ _) | (with_reducible refine Kd.C_drew ?_))); (case side2 => exact HC0.out); rintro e w5 ⟨rfl, hb⟩; have n0_ := Aside0.mk (below_step (by repeat (first | (with_reducible first | exact HB.out | apply below_alloc | apply pw_below_drewN | apply below_drew1) | exact HB.out)) hb); clear HB; have HB := n0_; clear n0_; (try clear hb); (try clear hb2); (try clear hk); (try clear hi)))
   go_meet
   case rel => exact ⟨_, (!t411), (by first | rfl | (simp; done) | (simp [*]; done)), H', ⟨by first | omega | exact Nat.le_refl _⟩, ⟨by repeat (first | (with_reducible first | exact HB.out | apply below_alloc | apply pw_below_drewN | apply below_drew1) | exact HB.out)⟩⟩
 case rest =>
  clear HC2
  try clear p2
  try clear c3
  try clear c3b0
  try clear c3b1
  try clear c3b2
  try clear c4
  obtain ⟨kq, x11_1, rfl, HA, HJ1, HB⟩ := hcut
  cases kq with
  | zero => exact absurd HA.out (by simp [spec_Decision.j0])
  | succ kj1 =>
   have H := HA.out
   clear HA
   simp only [spec_Decision.j0] at H
   by_cases c6 : x11_1 = true
   ·
    subst c6
    have H1 : (some 0) = some r := by rw [if_pos rfl] at H; exact H
    clear H
    have H := H1
    clear H1
    obtain rfl := Option.some.inj H
    go_wp2
    go_ret
    exact ⟨by first | rfl | (simp [errW_none, errW_some] <;> rfl) | (simp [*, errW_none, errW_some] <;> rfl), by repeat (first | (with_reducible first | exact HB.out | apply below_alloc | apply pw_below_drewN | apply below_drew1) | exact HB.out)⟩
   ·
    replace c6 := Bool.eq_false_iff.mpr c6
    subst c6
    have H1 : ((spec_VotesFor.f kj1 l0 1).bind fun t412 => ((spec_VotesFor.f kj1 l0 2).bind fun t413 => (if (wrap64 (t412 - t413)) = 0 then ((spec_SumFor.f kj1 l0 1).bind fun t414 => ((spec_SumFor.f kj1 l0 2).bind fun t415 => (spec_Decision.j1 kj1 l0 (wrap64 (t414 - t415))))) else (spec_Decision.j1 kj1 l0 (wrap64 (t412 - t413)))))) = some r := by rw [if_neg (show ¬ (false = true) by decide)] at H; exact H
    clear H
    have H := H1
    clear H1
    replace H := Option.bind_eq_some_iff.mp H
    obtain ⟨t412, A70, H⟩ := H
    replace H : ((spec_VotesFor.f kj1 l0 2).bind fun t413 => (if (wrap64 (t412 - t413)) = 0 then ((spec_SumFor.f kj1 l0 1).bind fun t414 => ((spec_SumFor.f kj1 l0 2).bind fun t415 => (spec_Decision.j1 kj1 l0 (wrap64 (t414 - t415))))) else (spec_Decision.j1 kj1 l0 (wrap64 (t412 - t413))))) = some r := H
    have A7 := Aside0.mk A70
    clear A70
    replace H := Option.bind_eq_some_iff.mp H
    obtain ⟨t413, A80, H⟩ := H
    replace H : (if (wrap64 (t412 - t413)) = 0 then ((spec_SumFor.f kj1 l0 1).bind fun t414 => ((spec_SumFor.f kj1 l0 2).bind fun t415 => (spec_Decision.j1 kj1 l0 (wrap64 (t414 - t415))))) else (spec_Decision.j1 kj1 l0 (wrap64 (t412 - t413)))) = some r := H
    have A8 := Aside0.mk A80
    clear A80
    have HC9 := Aside0.mk H
    clear H
    go_upto_if 18 with (first | ((with_reducible refine gate_callee (f := 33) rfl ?_); refine goesL_ (some 13) rfl rfl Try.func33 (by kernel_rfl) rfl #[.slice A0 l0.length c0, .int .i64 1] rfl (by (try simp only [List.map_toArray, List.map_cons, List.map_nil]); first | done | rfl | (simp only [List.length_drop, List.length_take]; rfl)) ?_; (with_reducible refine (spec_VotesFor.calls kj1 _ _ l0 1 t412 _ ?side1 ?side2 A7.out).mono ?_); (case side1 => repeat (first | exact (Kd.C_below HR0.out HB.out) | (with_reducible refine Kd.C_alloc ?_ _) | (with_reducible refine Kd.C_drewN ?_ _) | (with_reducible refine Kd.C_drew ?_))); (case side2 => exact HC0.out); rintro e w10 ⟨rfl, hb⟩; refine ⟨_, rfl, ?_⟩; have n0_ := Aside0.mk (below_step (by repeat (first | (with_reducible first | exact HB.out | apply below_alloc | apply pw_below_drewN | apply below_drew1) | exact HB.out)) hb); clear HB; have HB := n0_; clear n0_; (try clear hb); (try clear hb2); (try clear hk); (try clear hi)) | ((with_reducible refine gate_callee (f := 33) rfl ?_); refine goesL_ (some 15) rfl rfl Try.func33 (by kernel_rfl) rfl #[.slice A0 l0.length c0, .int .i64 2] rfl (by (try simp only [List.map_toArray, List.map_cons, List.map_nil]); first | done | rfl | (simp only [List.length_drop, List.length_take]; rfl)) ?_; (with_reducible refine (spec_VotesFor.calls kj1 _ _ l0 2 t413 _ ?side1 ?side2 A8.out).mono ?_); (case side1 => repeat (first | exact (Kd.C_below HR0.out HB.out) | (with_reducible refine Kd.C_alloc ?_ _) | (with_reducible refine Kd.C_drewN ?_ _) | (with_reducible refine Kd.C_drew ?_))); (case side2 => exact HC0.out); rintro e w11 ⟨rfl, hb⟩; refine ⟨_, rfl, ?_⟩; have n0_ := Aside0.mk (below_step (by repeat (first | (with_reducible first | exact HB.out | apply below_alloc | apply pw_below_drewN | apply below_drew1) | exact HB.out)) hb); clear HB; have HB := n0_; clear n0_; (try clear hb); (try clear hb2); (try clear hk); (try clear hi)))
    (try simp only [Act.put, List.setIfInBounds_toArray, List.set_cons_zero, List.set_cons_succ])
    go_cut [3] (fun v3 wc => ∃ (kq : Nat) (x3_8 : Int), v3 = .int .i64 x3_8 ∧ Aside0 (spec_Decision.j1 kq l0 x3_8 = some r) ∧ Aside0 (kq ≤ kj1) ∧ Aside0 (Below w.heap.size w wc))
    case first =>
     have H := HC9.out
     clear HC9
     by_cases c12 : (wrap64 (t412 - t413)) = 0
     ·
      rw [if_pos c12] at H
      have c12b0 : ((wrap64 (t412 - t413)) == 0) = true := beq_iff_eq.mpr c12
      have c12b1 : ((wrap64 (t412 - t413)) != 0) = false := bne_eq_false_iff_eq.mpr c12
      clear c12
      (first | rw [c12b0] | (simp only [i64_w, i32_w]; rw [c12b0]) | skip)
      replace H := Option.bind_eq_some_iff.mp H
      obtain ⟨t414, A130, H⟩ := H
      replace H : ((spec_SumFor.f kj1 l0 2).bind fun t415 => (spec_Decision.j1 kj1 l0 (wrap64 (t414 - t415)))) = some r := H
      have A13 := Aside0.mk A130
      clear A130
      replace H := Option.bind_eq_some_iff.mp H
      obtain ⟨t415, A140, H⟩ := H
      replace H : (spec_Decision.j1 kj1 l0 (wrap64 (t414 - t415))) = some r := H
      have A14 := Aside0.mk A140
      clear A140
      have H' := Aside0.mk H
      clear H
      go_wp2_with (first | ((with_reducible refine gate_callee (f := 23) rfl ?_); refine goesL_ (some 20) rfl rfl Try.func23 (by kernel_rfl) rfl #[.slice A0 l0.length c0, .int .i64 1] rfl (by (try simp only [List.map_toArray, List.map_cons, List.map_nil]); first | done | rfl | (simp only [List.length_drop, List.length_take]; rfl)) ?_; (with_reducible refine (spec_SumFor.calls kj1 _ _ l0 1 t414 _ ?side1 ?side2 A13.out).mono ?_); (case side1 => repeat (first | exact (Kd.C_below HR0.out HB.out) | (with_reducible refine Kd.C_alloc ?_ _) | (with_reducible refine Kd.C_drewN ?_ _) | (with_reducible refine Kd.C_drew ?_))); (case side2 => exact HC0.out); rintro e w15 ⟨rfl, hb⟩; refine ⟨_, rfl, ?_⟩; have n0_ := Aside0.mk (below_step (by repeat (first | (with_reducible first | exact HB.out | apply below_alloc | apply pw_below_drewN | apply below_drew1) | exact HB.out)) hb); clear HB; have HB := n0_; clear n0_; (try clear hb); (try clear hb2); (try clear hk); (try clear hi)) | ((with_reducible refine gate_callee (f := 23) rfl ?_); refine goesL_ (some 22) rfl rfl Try.func23 (by kernel_rfl) rfl #[.slice A0 l0.length c0, .int .i64 2] rfl (by (try simp only [List.map_toArray, List.map_cons, List.map_nil]); first | done | rfl | (simp only [List.length_drop, List.length_take]; rfl)) ?_; (with_reducible refine (spec_SumFor.calls kj1 _ _ l0 2 t415 _ ?side1 ?side2 A14.out).mono ?_); (case side1 => repeat (first | exact (Kd.C_below HR0.out HB.out) | (with_reducible refine Kd.C_alloc ?_ _) | (with_reducible refine Kd.C_drewN ?_ _) | (with_reducible refine Kd.C_drew ?_))); (case side2 => exact HC0.out); rintro e w16 ⟨rfl, hb⟩; refine ⟨_, rfl, ?_⟩; have n0_ := Aside0.mk (below_step (by repeat (first | (with_reducible first | exact HB.out | apply below_alloc | apply pw_below_drewN | apply below_drew1) | exact HB.out)) hb); clear HB; have HB := n0_; clear n0_; (try clear hb); (try clear hb2); (try clear hk); (try clear hi)))
      go_meet
      case rel => exact ⟨_, (wrap64 (t414 - t415)), (by first | rfl | (simp; done) | (simp [*]; done)), H', ⟨by have := HJ1.out; first | omega | exact Nat.le_refl _⟩, ⟨by repeat (first | (with_reducible first | exact HB.out | apply below_alloc | apply pw_below_drewN | apply below_drew1) | exact HB.out)⟩⟩
     ·
      rw [if_neg c12] at H
      have c12b0 : ((wrap64 (t412 - t413)) == 0) = false := beq_eq_false_iff_ne.mpr c12
      have c12b1 : ((wrap64 (t412 - t413)) != 0) = true := bne_iff_ne.mpr c12
      (first | rw [c12b0] | (simp only [i64_w, i32_w]; rw [c12b0]) | skip)
      have H' := Aside0.mk H
      clear H
      go_wp2
      go_meet
      case rel => exact ⟨_, (wrap64 (t412 - t413)), (by first | rfl | (simp; done) | (simp [*]; done)), H', ⟨by have := HJ1.out; first | omega | exact Nat.le_refl _⟩, ⟨by repeat (first | (with_reducible first | exact HB.out | apply below_alloc | apply pw_below_drewN | apply below_drew1) | exact HB.out)⟩⟩
    case rest =>
     clear HC9
     try clear c1
     try clear c2
     try clear p2
     try clear c3
     try clear c3b0
     try clear c3b1
     try clear c3b2
     try clear c4
     try clear c6
     try clear p6
     try clear c12
     try clear c12b0
     try clear c12b1
     try clear p2
     obtain ⟨kq, x3_8, rfl, HA, HJ8, HB⟩ := hcut
     cases kq with
     | zero => exact absurd HA.out (by simp [spec_Decision.j1])
     | succ kj8 =>
      have H := HA.out
      clear HA
      simp only [spec_Decision.j1] at H
      by_cases c17 : x3_8 > 0
      ·
       rw [if_pos c17] at H
       have c17b0 : decide (0 < x3_8) = true := decide_eq_true c17
       clear c17
       obtain rfl := Option.some.inj H
       go_wp2
       go_ret
       exact ⟨by first | rfl | (simp [errW_none, errW_some] <;> rfl) | (simp [*, errW_none, errW_some] <;> rfl), by repeat (first | (with_reducible first | exact HB.out | apply below_alloc | apply pw_below_drewN | apply below_drew1) | exact HB.out)⟩
      ·
       rw [if_neg c17] at H
       have c17b0 : decide (0 < x3_8) = false := decide_eq_false c17
       clear c17
       by_cases c18 : x3_8 < 0
       ·
        rw [if_pos c18] at H
        have c18b0 : decide (x3_8 < 0) = true := decide_eq_true c18
        clear c18
        obtain rfl := Option.some.inj H
        go_wp2
        go_ret
        exact ⟨by first | rfl | (simp [errW_none, errW_some] <;> rfl) | (simp [*, errW_none, errW_some] <;> rfl), by repeat (first | (with_reducible first | exact HB.out | apply below_alloc | apply pw_below_drewN | apply below_drew1) | exact HB.out)⟩
       ·
        rw [if_neg c18] at H
        have c18b0 : decide (x3_8 < 0) = false := decide_eq_false c18
        clear c18
        by_cases c19 : 0 < (l0.length : Int)
        ·
         rw [if_pos c19] at H
         have c19b0 : decide (0 < (l0.length : Int)) = true := decide_eq_true c19
         have c19b1 : decide (0 < l0.length) = true := decide_eq_true (by omega)
         clear c19
         replace H := Option.bind_eq_some_iff.mp H
         obtain ⟨t417, A200, H⟩ := H
         replace H : (some t417) = some r := H
         have A20 := Aside0.mk A200
         clear A200
         obtain rfl := Option.some.inj H
         have p416 : 0 ≤ (0 : Int) := (by omega)
         have q416 : 0 < (l0.length : Int) := of_decide_eq_true (by first | (with_reducible assumption) | assumption)
         obtain ⟨ad416, e416, hx416_0, hx416_1, hx416_2⟩ := at_T63 HR0.out 0 p416 q416
         cases e416
         have qi416 : (0 < l0.length) = True := eq_true (by omega)
         (try rw [show ((0 : Int)).toNat = 0 from rfl] at hx416_0)
         (try rw [show 0 * 3 = 0 from rfl] at hx416_0)
         (try rw [Addr.add_zero'] at hx416_0)
         (try rw [show ((0 : Int)).toNat = 0 from rfl] at hx416_1)
         (try rw [show 0 * 3 = 0 from rfl] at hx416_1)
         (try rw [Addr.add_zero'] at hx416_1)
         (try rw [show ((0 : Int)).toNat = 0 from rfl] at hx416_2)
         (try rw [show 0 * 3 = 0 from rfl] at hx416_2)
         (try rw [Addr.add_zero'] at hx416_2)
         replace hx416_0 := (HB.out.cell (World.block_lt_of_cell? w _ hx416_0)).trans hx416_0
         replace hx416_1 := (HB.out.cell (World.block_lt_of_cell? w _ hx416_1)).trans hx416_1
         replace hx416_2 := (HB.out.cell (World.block_lt_of_cell? w _ hx416_2)).trans hx416_2
         replace p416 := eq_true p416
         replace q416 := eq_true q416
         go_wp2_with (first | ((with_reducible refine gate_callee (f := 72) rfl ?_); refine goesL_ (some 33) rfl rfl Try.func72 (by kernel_rfl) rfl #[.agg #[.int .i64 ((rd_T63 l0 0).f0), .int .i64 ((rd_T63 l0 0).f1), .int .i64 ((rd_T63 l0 0).f2)]] rfl (by (try simp only [List.map_toArray, List.map_cons, List.map_nil]); first | done | rfl | (simp only [List.length_drop, List.length_take]; rfl)) ?_; (with_reducible refine (spec_l16Of.calls ((rd_T63 l0 0).f0) ((rd_T63 l0 0).f1) ((rd_T63 l0 0).f2) t417 _ A20.out).mono ?_); rintro e w21 ⟨rfl, hb⟩; refine ⟨_, rfl, ?_⟩; have n0_ := Aside0.mk (below_step (by repeat (first | (with_reducible first | exact HB.out | apply below_alloc | apply pw_below_drewN | apply below_drew1) | exact HB.out)) hb); clear HB; have HB := n0_; clear n0_; (try clear hb); (try clear hb2); (try clear hk); (try clear hi)))
         go_ret
         exact ⟨by first | rfl | (simp [errW_none, errW_some] <;> rfl) | (simp [*, errW_none, errW_some] <;> rfl), by repeat (first | (with_reducible first | exact HB.out | apply below_alloc | apply pw_below_drewN | apply below_drew1) | exact HB.out)⟩
        ·
         rw [if_neg c19] at H
         exact absurd H (by simp)

end Go.Proofs.Ytcffappipgapbaa.A
