/- What the row FnTeams rests on, put together: A76, A77, LHAreTs, A16, A17, A78. No condition. -/
import Derived.Test.YtiimiogpiflkdaaSFnTeamsx0
import Derived.Test.YtiimiogpiflkdaaSFnTeamsx1
import Derived.BigQuiet
section
namespace Go.Proofs.Ytiimiogpiflkdaa.A
open Go.RowKit Go.Proofs.YtiimiogpiflkdaaW.PrintWords Go.Proofs.YtiimiogpiflkdaaW.PrintLast Go.Proofs.YtiimiogpiflkdaaW.PrintMore
attribute [local go_sem] max2_int min2_int max_two min_two max_three min_three max_four min_four   -- for this text's walks alone
set_option linter.unusedVariables false
set_option linter.unusedSimpArgs false
def spec_l1Below.f (s0_0 : List Int) (s0_1 : Int) (s0_2 : Int) (a1 : Int) : Option (Int × Int × Int) := if a1 ≤ 0 then (some (0, s0_1, s0_2)) else (if a1 ≤ 256 then ((spec_l1Byte.f s0_0 s0_1 s0_2).bind fun bt417 => (if a1 = 0 then (none) else (some (Int.tmod bt417.1 a1, bt417.2.1, bt417.2.2)))) else ((spec_l1Byte.f s0_0 s0_1 s0_2).bind fun bt420 => ((spec_l1Byte.f s0_0 bt420.2.1 bt420.2.2).bind fun bt423 => ((spec_l1Byte.f s0_0 bt423.2.1 bt423.2.2).bind fun bt426 => (if a1 = 0 then (none) else (some (Int.tmod (wrap64 ((wrap64 ((wrap64 (bt420.1 * 65536)) + (wrap64 (bt423.1 * 256)))) + bt426.1)) a1, bt426.2.1, bt426.2.2)))))))
set_option maxHeartbeats 8000000 in
set_option maxRecDepth 100000 in
theorem spec_l1Below.calls (g : Nat) (s0_0 : List Int) (s0_1 : Int) (s0_2 : Int) (a1 : Int) (r1 : Int) (r2 : Int) (r3 : Int) (w0 w : World) (hI : IsS91 w0 w g s0_0 s0_1 s0_2) (hB : Below w0.heap.size w0 w) (h : spec_l1Below.f s0_0 s0_1 s0_2 a1 = some (r1, r2, r3)) :
  Calls Try.prog 80 #[.pointer (some ⟨g, 0, none⟩), .int .i64 a1] w fun e w' => e = .returned (.int .i64 r1) ∧ IsS91 w0 w' g s0_0 r2 r3 ∧ Below w0.heap.size w0 w' ∧ KeepBut w w' g none := by
 have HI0 := Aside0.mk hI
 have HK := Aside0.mk (KeepBut.refl w g none)
 have HL := Aside0.mk hB.size
 clear hI
 have HW0 := Aside0.mk hB.size
 have HB := Aside0.mk hB
 clear hB
 have H : (if a1 ≤ 0 then (some (0, s0_1, s0_2)) else (if a1 ≤ 256 then ((spec_l1Byte.f s0_0 s0_1 s0_2).bind fun bt417 => (if a1 = 0 then (none) else (some (Int.tmod bt417.1 a1, bt417.2.1, bt417.2.2)))) else ((spec_l1Byte.f s0_0 s0_1 s0_2).bind fun bt420 => ((spec_l1Byte.f s0_0 bt420.2.1 bt420.2.2).bind fun bt423 => ((spec_l1Byte.f s0_0 bt423.2.1 bt423.2.2).bind fun bt426 => (if a1 = 0 then (none) else (some (Int.tmod (wrap64 ((wrap64 ((wrap64 (bt420.1 * 65536)) + (wrap64 (bt423.1 * 256)))) + bt426.1)) a1, bt426.2.1, bt426.2.2)))))))) = some (r1, r2, r3) := h
 clear h
 by_cases c3 : a1 ≤ 0
 ·
  rw [if_pos c3] at H
  have c3b0 : decide (a1 ≤ 0) = true := decide_eq_true c3
  clear c3
  simp only [Option.some.injEq, Prod.mk.injEq] at H
  obtain ⟨rfl, rfl, rfl⟩ := H
  go_enter Try.func80, Try.ntmps80
  go_wp2
  go_ret
  exact ⟨by first | rfl | (simp [errW_none, errW_some] <;> rfl) | (simp [*, errW_none, errW_some] <;> rfl), by repeat (first | (with_reducible first | exact HI0.out | apply IsS91.alloc | apply IsS91.drewN | apply IsS91.drew | apply IsS91.set_1 | apply IsS91.set_2) | exact HI0.out), by repeat (first | (with_reducible first | exact HB.out | apply below_alloc | apply pw_below_drewN | apply below_drew1 | refine below_set ?_ (IsS91.ge HI0.out)) | exact HB.out), by repeat (first | (with_reducible first | exact HK.out | apply KeepBut.set_ | apply keep_drewN | apply keep_drew | apply keep_alloc) | exact HK.out)⟩
 ·
  rw [if_neg c3] at H
  have c3b0 : decide (a1 ≤ 0) = false := decide_eq_false c3
  clear c3
  by_cases c4 : a1 ≤ 256
  ·
   rw [if_pos c4] at H
   have c4b0 : decide (a1 ≤ 256) = true := decide_eq_true c4
   clear c4
   replace H := Option.bind_eq_some_iff.mp H
   obtain ⟨⟨t417, t418, t419⟩, A50, H⟩ := H
   replace H : (if a1 = 0 then (none) else (some (Int.tmod t417 a1, t418, t419))) = some (r1, r2, r3) := H
   have A5 := Aside0.mk A50
   clear A50
   by_cases c6 : a1 = 0
   ·
    rw [if_pos c6] at H
    exact absurd H (by simp)
   ·
    rw [if_neg c6] at H
    have c6b0 : (a1 == 0) = false := beq_eq_false_iff_ne.mpr c6
    have c6b1 : (a1 != 0) = true := bne_iff_ne.mpr c6
    simp only [Option.some.injEq, Prod.mk.injEq] at H
    obtain ⟨rfl, rfl, rfl⟩ := H
    go_enter Try.func80, Try.ntmps80
    go_wp2_with (first | ((with_reducible refine gate_callee (f := 91) rfl ?_); refine goesL_ (some 13) rfl rfl Try.func91 (by kernel_rfl) rfl #[.pointer (some ⟨g, 0, none⟩)] rfl (by (try simp only [List.map_toArray, List.map_cons, List.map_nil]); first | done | rfl | (simp only [List.length_drop, List.length_take]; rfl)) ?_; (with_reducible refine (spec_l1Byte.calls g s0_0 s0_1 s0_2 t417 t418 t419 w0 _ ?side1 ?side2 A5.out).mono ?_); (case side1 => repeat (first | (with_reducible first | exact HI0.out | apply IsS91.alloc | apply IsS91.drewN | apply IsS91.drew | apply IsS91.set_1 | apply IsS91.set_2) | exact HI0.out)); (case side2 => repeat (first | (with_reducible first | exact HB.out | apply below_alloc | apply pw_below_drewN | apply below_drew1 | refine below_set ?_ (IsS91.ge HI0.out)) | exact HB.out)); rintro e w7 ⟨rfl, hi, hb, hk⟩; refine ⟨_, rfl, ?_⟩; have n0_ := Aside0.mk (KeepBut.trans (by repeat (first | (with_reducible first | exact HK.out | apply KeepBut.set_ | apply keep_drewN | apply keep_drew | apply keep_alloc) | exact HK.out)) hk (.inl rfl)); have n1_ := Aside0.mk (hb); have n2_ := Aside0.mk (hi); clear HK; clear HB; clear HI0; have HK := n0_; have HB := n1_; have HI0 := n2_; clear n0_ n1_ n2_; (try clear hb); (try clear hb2); (try clear hk); (try clear hi)))
    go_ret
    exact ⟨by first | rfl | (simp [errW_none, errW_some] <;> rfl) | (simp [*, errW_none, errW_some] <;> rfl), by repeat (first | (with_reducible first | exact HI0.out | apply IsS91.alloc | apply IsS91.drewN | apply IsS91.drew | apply IsS91.set_1 | apply IsS91.set_2) | exact HI0.out), by repeat (first | (with_reducible first | exact HB.out | apply below_alloc | apply pw_below_drewN | apply below_drew1 | refine below_set ?_ (IsS91.ge HI0.out)) | exact HB.out), by repeat (first | (with_reducible first | exact HK.out | apply KeepBut.set_ | apply keep_drewN | apply keep_drew | apply keep_alloc) | exact HK.out)⟩
  ·
   rw [if_neg c4] at H
   have c4b0 : decide (a1 ≤ 256) = false := decide_eq_false c4
   clear c4
   replace H := Option.bind_eq_some_iff.mp H
   obtain ⟨⟨t420, t421, t422⟩, A80, H⟩ := H
   replace H : ((spec_l1Byte.f s0_0 t421 t422).bind fun bt423 => ((spec_l1Byte.f s0_0 bt423.2.1 bt423.2.2).bind fun bt426 => (if a1 = 0 then (none) else (some (Int.tmod (wrap64 ((wrap64 ((wrap64 (t420 * 65536)) + (wrap64 (bt423.1 * 256)))) + bt426.1)) a1, bt426.2.1, bt426.2.2))))) = some (r1, r2, r3) := H
   have A8 := Aside0.mk A80
   clear A80
   replace H := Option.bind_eq_some_iff.mp H
   obtain ⟨⟨t423, t424, t425⟩, A90, H⟩ := H
   replace H : ((spec_l1Byte.f s0_0 t424 t425).bind fun bt426 => (if a1 = 0 then (none) else (some (Int.tmod (wrap64 ((wrap64 ((wrap64 (t420 * 65536)) + (wrap64 (t423 * 256)))) + bt426.1)) a1, bt426.2.1, bt426.2.2)))) = some (r1, r2, r3) := H
   have A9 := Aside0.mk A90
   clear A90
   replace H := Option.bind_eq_some_iff.mp H
   obtain ⟨⟨t426, t427, t428⟩, A100, H⟩ := H
   replace H : (if a1 = 0 then (none) else (some (Int.tmod (wrap64 ((wrap64 ((wrap64 (t420 * 65536)) + (wrap64 (t423 * 256)))) + t426)) a1, t427, t428))) = some (r1, r2, r3) := H
   have A10 := Aside0.mk A100
   clear A100
   by_cases c11 : a1 = 0
   ·
    rw [if_pos c11] at H
    exact absurd H (by simp)
   ·
    rw [if_neg c11] at H
    have c11b0 : (a1 == 0) = false := beq_eq_false_iff_ne.mpr c11
    have c11b1 : (a1 != 0) = true := bne_iff_ne.mpr c11
    simp only [Option.some.injEq, Prod.mk.injEq] at H
    obtain ⟨rfl, rfl, rfl⟩ := H
    go_enter Try.func80, Try.ntmps80
    go_wp2_with (first | ((with_reducible refine gate_callee (f := 91) rfl ?_); refine goesL_ (some 17) rfl rfl Try.func91 (by kernel_rfl) rfl #[.pointer (some ⟨g, 0, none⟩)] rfl (by (try simp only [List.map_toArray, List.map_cons, List.map_nil]); first | done | rfl | (simp only [List.length_drop, List.length_take]; rfl)) ?_; (with_reducible refine (spec_l1Byte.calls g s0_0 s0_1 s0_2 t420 t421 t422 w0 _ ?side1 ?side2 A8.out).mono ?_); (case side1 => repeat (first | (with_reducible first | exact HI0.out | apply IsS91.alloc | apply IsS91.drewN | apply IsS91.drew | apply IsS91.set_1 | apply IsS91.set_2) | exact HI0.out)); (case side2 => repeat (first | (with_reducible first | exact HB.out | apply below_alloc | apply pw_below_drewN | apply below_drew1 | refine below_set ?_ (IsS91.ge HI0.out)) | exact HB.out)); rintro e w12 ⟨rfl, hi, hb, hk⟩; refine ⟨_, rfl, ?_⟩; have n0_ := Aside0.mk (KeepBut.trans (by repeat (first | (with_reducible first | exact HK.out | apply KeepBut.set_ | apply keep_drewN | apply keep_drew | apply keep_alloc) | exact HK.out)) hk (.inl rfl)); have n1_ := Aside0.mk (hb); have n2_ := Aside0.mk (hi); clear HK; clear HB; clear HI0; have HK := n0_; have HB := n1_; have HI0 := n2_; clear n0_ n1_ n2_; (try clear hb); (try clear hb2); (try clear hk); (try clear hi)) | ((with_reducible refine gate_callee (f := 91) rfl ?_); refine goesL_ (some 19) rfl rfl Try.func91 (by kernel_rfl) rfl #[.pointer (some ⟨g, 0, none⟩)] rfl (by (try simp only [List.map_toArray, List.map_cons, List.map_nil]); first | done | rfl | (simp only [List.length_drop, List.length_take]; rfl)) ?_; (with_reducible refine (spec_l1Byte.calls g s0_0 t421 t422 t423 t424 t425 w0 _ ?side1 ?side2 A9.out).mono ?_); (case side1 => repeat (first | (with_reducible first | exact HI0.out | apply IsS91.alloc | apply IsS91.drewN | apply IsS91.drew | apply IsS91.set_1 | apply IsS91.set_2) | exact HI0.out)); (case side2 => repeat (first | (with_reducible first | exact HB.out | apply below_alloc | apply pw_below_drewN | apply below_drew1 | refine below_set ?_ (IsS91.ge HI0.out)) | exact HB.out)); rintro e w13 ⟨rfl, hi, hb, hk⟩; refine ⟨_, rfl, ?_⟩; have n0_ := Aside0.mk (KeepBut.trans (by repeat (first | (with_reducible first | exact HK.out | apply KeepBut.set_ | apply keep_drewN | apply keep_drew | apply keep_alloc) | exact HK.out)) hk (.inl rfl)); have n1_ := Aside0.mk (hb); have n2_ := Aside0.mk (hi); clear HK; clear HB; clear HI0; have HK := n0_; have HB := n1_; have HI0 := n2_; clear n0_ n1_ n2_; (try clear hb); (try clear hb2); (try clear hk); (try clear hi)) | ((with_reducible refine gate_callee (f := 91) rfl ?_); refine goesL_ (some 21) rfl rfl Try.func91 (by kernel_rfl) rfl #[.pointer (some ⟨g, 0, none⟩)] rfl (by (try simp only [List.map_toArray, List.map_cons, List.map_nil]); first | done | rfl | (simp only [List.length_drop, List.length_take]; rfl)) ?_; (with_reducible refine (spec_l1Byte.calls g s0_0 t424 t425 t426 t427 t428 w0 _ ?side1 ?side2 A10.out).mono ?_); (case side1 => repeat (first | (with_reducible first | exact HI0.out | apply IsS91.alloc | apply IsS91.drewN | apply IsS91.drew | apply IsS91.set_1 | apply IsS91.set_2) | exact HI0.out)); (case side2 => repeat (first | (with_reducible first | exact HB.out | apply below_alloc | apply pw_below_drewN | apply below_drew1 | refine below_set ?_ (IsS91.ge HI0.out)) | exact HB.out)); rintro e w14 ⟨rfl, hi, hb, hk⟩; refine ⟨_, rfl, ?_⟩; have n0_ := Aside0.mk (KeepBut.trans (by repeat (first | (with_reducible first | exact HK.out | apply KeepBut.set_ | apply keep_drewN | apply keep_drew | apply keep_alloc) | exact HK.out)) hk (.inl rfl)); have n1_ := Aside0.mk (hb); have n2_ := Aside0.mk (hi); clear HK; clear HB; clear HI0; have HK := n0_; have HB := n1_; have HI0 := n2_; clear n0_ n1_ n2_; (try clear hb); (try clear hb2); (try clear hk); (try clear hi)))
    go_ret
    exact ⟨by first | rfl | (simp [errW_none, errW_some] <;> rfl) | (simp [*, errW_none, errW_some] <;> rfl), by repeat (first | (with_reducible first | exact HI0.out | apply IsS91.alloc | apply IsS91.drewN | apply IsS91.drew | apply IsS91.set_1 | apply IsS91.set_2) | exact HI0.out), by repeat (first | (with_reducible first | exact HB.out | apply below_alloc | apply pw_below_drewN | apply below_drew1 | refine below_set ?_ (IsS91.ge HI0.out)) | exact HB.out), by repeat (first | (with_reducible first | exact HK.out | apply KeepBut.set_ | apply keep_drewN | apply keep_drew | apply keep_alloc) | exact HK.out)⟩
end Go.Proofs.Ytiimiogpiflkdaa.A
end

section
namespace Go.Proofs.Ytiimiogpiflkdaa.A
open Go.RowKit Go.Proofs.YtiimiogpiflkdaaW.PrintWords Go.Proofs.YtiimiogpiflkdaaW.PrintLast Go.Proofs.YtiimiogpiflkdaaW.PrintMore
attribute [local go_sem] max2_int min2_int max_two min_two max_three min_three max_four min_four   -- for this text's walks alone
set_option linter.unusedVariables false
set_option linter.unusedSimpArgs false
def spec_l1Int.f (s0_0 : List Int) (s0_1 : Int) (s0_2 : Int) (l1 : List Int) : Option (Int × Int × Int) := (spec_l1Below.f s0_0 s0_1 s0_2 (l1.length : Int)).bind fun bt429 => (if 0 ≤ bt429.1 then (if bt429.1 < (l1.length : Int) then (some (rd l1 bt429.1, bt429.2.1, bt429.2.2)) else (none)) else (none))
set_option maxHeartbeats 8000000 in
set_option maxRecDepth 100000 in
theorem spec_l1Int.calls (g : Nat) (s0_0 : List Int) (s0_1 : Int) (s0_2 : Int) (A1 : Option Addr) (c1 : Nat) (l1 : List Int) (r1 : Int) (r2 : Int) (r3 : Int) (w0 w : World) (hI : IsS91 w0 w g s0_0 s0_1 s0_2) (hB : Below w0.heap.size w0 w) (hr1 : Kd.C (Kd.int .i64) w A1 l1.length l1) (hc1 : l1.length ≤ c1) (hf1 : ∀ ad, A1 = some ad → 0 < l1.length → ad.block ≠ g) (h : spec_l1Int.f s0_0 s0_1 s0_2 l1 = some (r1, r2, r3)) :
  Calls Try.prog 81 #[.pointer (some ⟨g, 0, none⟩), .slice A1 l1.length c1] w fun e w' => e = .returned (.int .i64 r1) ∧ IsS91 w0 w' g s0_0 r2 r3 ∧ Below w0.heap.size w0 w' ∧ KeepBut w w' g none := by
 have HR1 := Aside0.mk hr1
 have HC1 := Aside0.mk hc1
 clear hr1 hc1
 have HI0 := Aside0.mk hI
 have HK := Aside0.mk (KeepBut.refl w g none)
 have HL := Aside0.mk hB.size
 clear hI
 have HW0 := Aside0.mk hB.size
 have HB := Aside0.mk hB
 clear hB
 have H : ((spec_l1Below.f s0_0 s0_1 s0_2 (l1.length : Int)).bind fun bt429 => (if 0 ≤ bt429.1 then (if bt429.1 < (l1.length : Int) then (some (rd l1 bt429.1, bt429.2.1, bt429.2.2)) else (none)) else (none))) = some (r1, r2, r3) := h
 clear h
 replace H := Option.bind_eq_some_iff.mp H
 obtain ⟨⟨t429, t430, t431⟩, A30, H⟩ := H
 replace H : (if 0 ≤ t429 then (if t429 < (l1.length : Int) then (some (rd l1 t429, t430, t431)) else (none)) else (none)) = some (r1, r2, r3) := H
 have A3 := Aside0.mk A30
 clear A30
 by_cases c4 : 0 ≤ t429
 ·
  rw [if_pos c4] at H
  have c4b0 : decide (0 ≤ t429) = true := decide_eq_true c4
  clear c4
  by_cases c5 : t429 < (l1.length : Int)
  ·
   rw [if_pos c5] at H
   have c5b0 : decide (t429 < (l1.length : Int)) = true := decide_eq_true c5
   clear c5
   simp only [Option.some.injEq, Prod.mk.injEq] at H
   obtain ⟨rfl, rfl, rfl⟩ := H
   go_enter Try.func81, Try.ntmps81
   go_wp2_with (first | ((with_reducible refine gate_callee (f := 80) rfl ?_); refine goesL_ (some 9) rfl rfl Try.func80 (by kernel_rfl) rfl #[.pointer (some ⟨g, 0, none⟩), .int .i64 (l1.length : Int)] rfl (by (try simp only [List.map_toArray, List.map_cons, List.map_nil]); first | done | rfl | (simp only [List.length_drop, List.length_take]; rfl)) ?_; (with_reducible refine (spec_l1Below.calls g s0_0 s0_1 s0_2 (l1.length : Int) t429 t430 t431 w0 _ ?side1 ?side2 A3.out).mono ?_); (case side1 => repeat (first | (with_reducible first | exact HI0.out | apply IsS91.alloc | apply IsS91.drewN | apply IsS91.drew | apply IsS91.set_1 | apply IsS91.set_2) | exact HI0.out)); (case side2 => repeat (first | (with_reducible first | exact HB.out | apply below_alloc | apply pw_below_drewN | apply below_drew1 | refine below_set ?_ (IsS91.ge HI0.out)) | exact HB.out)); rintro e w6 ⟨rfl, hi, hb, hk⟩; refine ⟨_, rfl, ?_⟩; have n0_ := Aside0.mk (KeepBut.trans (by repeat (first | (with_reducible first | exact HK.out | apply KeepBut.set_ | apply keep_drewN | apply keep_drew | apply keep_alloc) | exact HK.out)) hk (.inl rfl)); have n1_ := Aside0.mk (hb); have n2_ := Aside0.mk (hi); clear HK; clear HB; clear HI0; have HK := n0_; have HB := n1_; have HI0 := n2_; clear n0_ n1_ n2_; (try clear hb); (try clear hb2); (try clear hk); (try clear hi); have p432 : 0 ≤ (t429 : Int) := of_decide_eq_true (by first | (with_reducible assumption) | assumption); have q432 : t429 < (l1.length : Int) := of_decide_eq_true (by first | (with_reducible assumption) | assumption); obtain ⟨ad432, e432, hx432_0⟩ := Kd.at_int HR1.out t429 p432 q432; cases e432; replace hx432_0 := keep_cell HK.out hx432_0 (by first | (rw [add_block]; exact hf1 _ rfl (by omega)) | exact hf1 _ rfl (by omega) | exact hf1 ad432 rfl (by omega)); replace p432 := eq_true p432; replace q432 := eq_true q432))
   go_ret
   exact ⟨by first | rfl | (simp [errW_none, errW_some] <;> rfl) | (simp [*, errW_none, errW_some] <;> rfl), by repeat (first | (with_reducible first | exact HI0.out | apply IsS91.alloc | apply IsS91.drewN | apply IsS91.drew | apply IsS91.set_1 | apply IsS91.set_2) | exact HI0.out), by repeat (first | (with_reducible first | exact HB.out | apply below_alloc | apply pw_below_drewN | apply below_drew1 | refine below_set ?_ (IsS91.ge HI0.out)) | exact HB.out), by repeat (first | (with_reducible first | exact HK.out | apply KeepBut.set_ | apply keep_drewN | apply keep_drew | apply keep_alloc) | exact HK.out)⟩
  ·
   rw [if_neg c5] at H
   exact absurd H (by simp)
 ·
  rw [if_neg c4] at H
  exact absurd H (by simp)
end Go.Proofs.Ytiimiogpiflkdaa.A
end

section
set_option linter.unusedVariables false
set_option linter.unusedSimpArgs false
namespace Go.Proofs.Ytiimiogpiflkdaa.A
open Go.RowKit Go.Proofs.YtiimiogpiflkdaaW.PrintWords Go.Proofs.YtiimiogpiflkdaaW.PrintLast Go.Proofs.YtiimiogpiflkdaaW.PrintMore Go.Shelf Go.Proofs.Ytiimiogpiflkdaa.L
def spec_AreTeams.f (k : Nat) (l0 : List S61) : Option Bool := if smallT l0 = true then some (areT l0) else none
theorem spec_l19Countex (l : List Int) (x : Int) (hl : l.length ≤ 1099511627776) : ∃ k, spec_l19Count.f k l x = some ((l.count x : Nat) : Int) := by
  obtain ⟨k, h⟩ := l19Count_ev l x hl
  exact ⟨k, h k (Nat.le_refl _)⟩
set_option maxHeartbeats 16000000 in
set_option maxRecDepth 100000 in
theorem spec_AreTeams.calls (k : Nat) (A0 : Option Addr) (c0 : Nat) (l0 : List S61) (r : Bool) (w : World) (hr0 : Kd.C k61 w A0 l0.length l0) (hc0 : l0.length ≤ c0) (h : spec_AreTeams.f k l0 = some r) :
    Calls Try.prog 20 #[.slice A0 l0.length c0] w fun e w' => e = .returned (.bool r) ∧ Below w.heap.size w w' := by
  unfold spec_AreTeams.f at h
  by_cases hs : smallT l0 = true
  rotate_left
  · rw [if_neg hs] at h
    cases h
  rw [if_pos hs] at h
  have hr := Option.some.inj h
  have hsm := small_of hs
  clear h hs
  have hu61 := Try.underlying61
  have HR0 := Aside0.mk hr0
  have HC0 := Aside0.mk hc0
  have HR := Aside0.mk hr
  have HS := Aside0.mk hsm
  clear hr0 hc0 hr hsm
  go_enter Try.func20, Try.ntmps20
  go_wp2
  go_loopg [3] l0.length (fun gg v3 wr => ∃ kk : Nat, v3 = .int .i64 kk ∧ Aside0 (kk ≤ l0.length ∧ l0.length - kk ≤ gg) ∧ Aside0 (∀ j : Nat, j < kk → okT l0 j = true) ∧ Aside0 (Below w.heap.size w wr))
  case atStart => exact ⟨0, rfl, ⟨by omega⟩, ⟨fun j hj => by omega⟩, ⟨Below.refl _ w⟩⟩
  case round =>
    obtain ⟨kk, rfl, HI, HOK, HB⟩ := hrel
    by_cases hlt : kk < l0.length
    rotate_left
    · have hltb : ((kk : Int) < (l0.length : Int)) = False := eq_false (by omega)
      have HR1 : Aside0 (r = decide (l0.length ≤ 10)) := ⟨by
        rw [← HR.out]
        by_cases h10 : l0.length ≤ 10
        · rw [decide_eq_true h10]
          exact areT_yes h10 (fun i hi => HOK.out i (by omega))
        · rw [decide_eq_false h10]
          exact areT_big h10⟩
      clear hlt
      go_wp2
      go_ret
      exact ⟨by rw [HR1.out]; simp; omega, HB.out⟩
    have hltb : ((kk : Int) < (l0.length : Int)) = True := eq_true (by omega)
    obtain ⟨ad, A5, c5, e0, hat, hl5, hi5⟩ := tmAt_of HR0.out kk hlt
    subst e0
    obtain ⟨x0, x1, x2, x3, x4, x5⟩ := hat.below HB.out
    clear hat
    obtain ⟨x, hx⟩ : ∃ x, rdT l0 (kk : Int) = x := ⟨_, rfl⟩
    rw [hx] at x0 x1 x2 x3 x4 x5 hl5 hi5
    have hx5 : x.f5.length ≤ 1099511627776 := by rw [← hx]; exact HS.out.2 _ (rdTm_mem (by omega) (by omega))
    have HX := Aside0.mk hx
    have HLT := Aside0.mk hlt
    have HL5 := Aside0.mk hl5
    have HX5 := Aside0.mk hx5
    have HI6 : Aside0 (∀ W, Below w.heap.size w W → Kd.C (Kd.int .i64) W A5 x.f5.length x.f5) := ⟨fun W h => Kd.C_below hi5 h⟩
    clear hx hlt hi5 hl5 hx5
    go_upto_region 5 with (first | ((with_reducible refine gate_dst (N := 4) rfl ?_); refine box_event ?hg (N := 4) ?hd (cs := #[.int .i64 0, .int .i64 0, .int .i64 0, .int .i64 0, .int .i64 0, .slice none 0 0]) (t := 61) ?hr ?_; (case hd => rfl); (case hg => rfl); (case hr => first | (go_simp; done) | (go_simp; rfl)); intro gb hg w7 hbox hb; have HBX := Aside0.mk hbox; have HG := Aside0.mk (show w.heap.size ≤ gb by rw [hg]; exact below_size (by repeat (first | exact HB.out | apply pw_below_drewN | apply below_drew1))); have HB7 := Aside0.mk (below_step (by repeat (first | exact HB.out | apply pw_below_drewN | apply below_drew1)) hb); clear hb hg; obtain ⟨⟨hz0, hz1, hz2, hz3, hz4, hz5⟩, hf0, hf1, hf2, hf3, hf4, hf5⟩ := cells6 hbox; clear hbox))
    try simp only [Act.put, Z1, Z2, Z3]
    obtain ⟨w8, e8, hbx, hb8⟩ := box6 HBX.out HB7.out HG.out (.int .i64 x.f0) (.int .i64 x.f1) (.int .i64 x.f2) (.int .i64 x.f3) (.int .i64 x.f4) (.slice A5 x.f5.length c5)
    rw [← e8]
    clear e8 hz0 hz1 hz2 hz3 hz4 hz5 hf0 hf1 hf2 hf3 hf4 hf5 x0 x1 x2 x3 x4 x5 HBX HB7
    have HBX := Aside0.mk hbx
    have HB8 := Aside0.mk hb8
    obtain ⟨⟨hz0, hz1, hz2, hz3, hz4, hz5⟩, _⟩ := cells6 hbx
    clear hbx hb8
    have hI : ∀ (a lo hi : Int) (b : Bool), inR a lo hi = b → ∀ W, Calls Try.prog 59 #[.int .i64 a, .int .i64 lo, .int .i64 hi] W fun e w' => e = .returned (.bool b) ∧ Drawn0 W w' := fun a lo hi b e W => spec_l1In.calls a lo hi b W (by rw [l1In_eq, e])
    obtain ⟨b1, hb1⟩ : ∃ b, inR x.f0 1 99 = b := ⟨_, rfl⟩
    obtain ⟨b2, hb2⟩ : ∃ b, inR x.f1 1 99 = b := ⟨_, rfl⟩
    obtain ⟨b3, hb3⟩ : ∃ b, inR x.f2 0 (x.f5.length : Int) = b := ⟨_, rfl⟩
    obtain ⟨b4, hb4⟩ : ∃ b, inR x.f4 0 (x.f5.length : Int) = b := ⟨_, rfl⟩
    obtain ⟨b5, hb5⟩ : ∃ b, inR x.f3 0 100000 = b := ⟨_, rfl⟩
    have hI1 := hI _ _ _ _ hb1
    have hI2 := hI _ _ _ _ hb2
    have hI3 := hI _ _ _ _ hb3
    have hI4 := hI _ _ _ _ hb4
    have hI5 := hI _ _ _ _ hb5
    have HE1 := Aside0.mk hb1
    have HE2 := Aside0.mk hb2
    have HE3 := Aside0.mk hb3
    have HE4 := Aside0.mk hb4
    have HE5 := Aside0.mk hb5
    clear hI hb1 hb2 hb3 hb4 hb5
    go_cut [71] (fun v71 wc => ∃ b : Bool, v71 = .bool b ∧ Aside0 (b = !rowT l0 (kk : Int)) ∧ Aside0 (wc.heap[gb]? = some (.cells #[.int .i64 x.f0, .int .i64 x.f1, .int .i64 x.f2, .int .i64 x.f3, .int .i64 x.f4, .slice A5 x.f5.length c5] 61 (0, 0))) ∧ Aside0 (Below w.heap.size w wc))
    case first =>
      cases b1 with
      | false =>
        have HRW : Aside0 (rowT l0 (kk : Int) = false) := ⟨row_no1 (by rw [HX.out]; exact HE1.out)⟩
        go_quiet ((go_at_call 59; (with_reducible first | refine (hI1 _).mono ?_ | refine (hI2 _).mono ?_ | refine (hI3 _).mono ?_ | refine (hI4 _).mono ?_ | refine (hI5 _).mono ?_); rintro e w' ⟨rfl, nd, rfl⟩; exact ⟨rfl, _, World.drewN_drewN ..⟩))
        try go_wp2
        go_meet
        case rel => exact ⟨true, rfl, ⟨by rw [HRW.out]; rfl⟩, ⟨blk_drewN HBX.out _⟩, ⟨pw_below_drewN HB8.out _⟩⟩
      | true =>
        cases b2 with
        | false =>
          have HRW : Aside0 (rowT l0 (kk : Int) = false) := ⟨row_no2 (by rw [HX.out]; exact HE2.out)⟩
          go_quiet ((go_at_call 59; (with_reducible first | refine (hI1 _).mono ?_ | refine (hI2 _).mono ?_ | refine (hI3 _).mono ?_ | refine (hI4 _).mono ?_ | refine (hI5 _).mono ?_); rintro e w' ⟨rfl, nd, rfl⟩; exact ⟨rfl, _, World.drewN_drewN ..⟩))
          try go_wp2
          go_meet
          case rel => exact ⟨true, rfl, ⟨by rw [HRW.out]; rfl⟩, ⟨blk_drewN HBX.out _⟩, ⟨pw_below_drewN HB8.out _⟩⟩
        | true =>
          cases b3 with
          | false =>
            have HRW : Aside0 (rowT l0 (kk : Int) = false) := ⟨row_no3 (by rw [HX.out]; exact HE3.out)⟩
            go_quiet ((go_at_call 59; (with_reducible first | refine (hI1 _).mono ?_ | refine (hI2 _).mono ?_ | refine (hI3 _).mono ?_ | refine (hI4 _).mono ?_ | refine (hI5 _).mono ?_); rintro e w' ⟨rfl, nd, rfl⟩; exact ⟨rfl, _, World.drewN_drewN ..⟩))
            try go_wp2
            go_meet
            case rel => exact ⟨true, rfl, ⟨by rw [HRW.out]; rfl⟩, ⟨blk_drewN HBX.out _⟩, ⟨pw_below_drewN HB8.out _⟩⟩
          | true =>
            cases b4 with
            | false =>
              have HRW : Aside0 (rowT l0 (kk : Int) = false) := ⟨row_no4 (by rw [HX.out]; exact HE4.out)⟩
              go_quiet ((go_at_call 59; (with_reducible first | refine (hI1 _).mono ?_ | refine (hI2 _).mono ?_ | refine (hI3 _).mono ?_ | refine (hI4 _).mono ?_ | refine (hI5 _).mono ?_); rintro e w' ⟨rfl, nd, rfl⟩; exact ⟨rfl, _, World.drewN_drewN ..⟩))
              try go_wp2
              go_meet
              case rel => exact ⟨true, rfl, ⟨by rw [HRW.out]; rfl⟩, ⟨blk_drewN HBX.out _⟩, ⟨pw_below_drewN HB8.out _⟩⟩
            | true =>
              cases b5 with
              | false =>
                have HRW : Aside0 (rowT l0 (kk : Int) = false) := ⟨row_no5 (by rw [HX.out]; exact HE5.out)⟩
                go_quiet ((go_at_call 59; (with_reducible first | refine (hI1 _).mono ?_ | refine (hI2 _).mono ?_ | refine (hI3 _).mono ?_ | refine (hI4 _).mono ?_ | refine (hI5 _).mono ?_); rintro e w' ⟨rfl, nd, rfl⟩; exact ⟨rfl, _, World.drewN_drewN ..⟩))
                try go_wp2
                go_meet
                case rel => exact ⟨true, rfl, ⟨by rw [HRW.out]; rfl⟩, ⟨blk_drewN HBX.out _⟩, ⟨pw_below_drewN HB8.out _⟩⟩
              | true =>
                by_cases h20 : 20 < (x.f5.length : Int)
                · have H20 := Aside0.mk h20
                  have hd20 : (20 < (x.f5.length : Int)) = True := eq_true h20
                  have hd20n : (20 < x.f5.length) = True := eq_true (by omega)
                  clear h20
                  have HRW : Aside0 (rowT l0 (kk : Int) = false) := ⟨row_no6 (by rw [HX.out]; exact H20.out)⟩
                  go_quiet ((go_at_call 59; (with_reducible first | refine (hI1 _).mono ?_ | refine (hI2 _).mono ?_ | refine (hI3 _).mono ?_ | refine (hI4 _).mono ?_ | refine (hI5 _).mono ?_); rintro e w' ⟨rfl, nd, rfl⟩; exact ⟨rfl, _, World.drewN_drewN ..⟩))
                  try go_wp2
                  go_meet
                  case rel => exact ⟨true, rfl, ⟨by rw [HRW.out]; rfl⟩, ⟨blk_drewN HBX.out _⟩, ⟨pw_below_drewN HB8.out _⟩⟩
                · have H20 := Aside0.mk h20
                  have hd20 : (20 < (x.f5.length : Int)) = False := eq_false h20
                  have hd20n : (20 < x.f5.length) = False := eq_false (by omega)
                  clear h20
                  by_cases hk0 : 0 < kk
                  rotate_left
                  · have hkb : (0 < (kk : Int)) = False := eq_false (by omega)
                    have hkbn : (0 < kk) = False := eq_false hk0
                    have HAS : Aside0 (0 < (kk : Int) → ¬ x.f0 ≤ (rdT l0 ((kk : Int) - 1)).f0) := ⟨fun h => by omega⟩
                    clear hk0
                    have HRW : Aside0 (rowT l0 (kk : Int) = true) := ⟨row_yes (by rw [HX.out]; exact HE1.out) (by rw [HX.out]; exact HE2.out) (by rw [HX.out]; exact HE3.out) (by rw [HX.out]; exact HE4.out) (by rw [HX.out]; exact HE5.out) (by rw [HX.out]; exact H20.out) (by rw [HX.out]; exact HAS.out)⟩
                    go_quiet ((go_at_call 59; (with_reducible first | refine (hI1 _).mono ?_ | refine (hI2 _).mono ?_ | refine (hI3 _).mono ?_ | refine (hI4 _).mono ?_ | refine (hI5 _).mono ?_); rintro e w' ⟨rfl, nd, rfl⟩; exact ⟨rfl, _, World.drewN_drewN ..⟩))
                    try go_wp2
                    go_meet
                    case rel => exact ⟨false, rfl, ⟨by rw [HRW.out]; rfl⟩, ⟨blk_drewN HBX.out _⟩, ⟨pw_below_drewN HB8.out _⟩⟩
                  have hkb : (0 < (kk : Int)) = True := eq_true (by omega)
                  have hkbn : (0 < kk) = True := eq_true hk0
                  obtain ⟨m, hm⟩ : ∃ m : Nat, (kk : Int) - 1 = (m : Int) := ⟨kk - 1, by omega⟩
                  obtain ⟨ad2, A52, c52, e2, ⟨y0, _⟩, _⟩ := tmAt_of (Kd.C_below HR0.out HB8.out) m (by have := HLT.out; omega)
                  cases e2
                  obtain ⟨q, hq⟩ : ∃ q, (rdT l0 (m : Int)).f0 = q := ⟨_, rfl⟩
                  rw [hq] at y0
                  have hwk : IntKind.i64.wrap ((kk : Int) - 1) = (m : Int) := by rw [hm, IntKind.wrap_i64]; have := HLT.out; have := HS.out.1; omega
                  have hwk2 : wrap64 ((kk : Int) - 1) = (m : Int) := (i64_w _).symm.trans hwk
                  have hml : ((m : Int) < (l0.length : Int)) = True := eq_true (by have := HLT.out; omega)
                  have HQ : Aside0 ((rdT l0 ((kk : Int) - 1)).f0 = q) := ⟨by rw [hm]; exact hq⟩
                  clear hm hq hk0
                  by_cases has : x.f0 ≤ q
                  · have HAS := Aside0.mk has
                    have hab : (x.f0 ≤ q) = True := eq_true has
                    clear has
                    have HRW : Aside0 (rowT l0 (kk : Int) = false) := ⟨row_no7 (of_eq_true hkb) (by rw [HX.out, HQ.out]; exact HAS.out)⟩
                    go_quiet ((go_at_call 59; (with_reducible first | refine (hI1 _).mono ?_ | refine (hI2 _).mono ?_ | refine (hI3 _).mono ?_ | refine (hI4 _).mono ?_ | refine (hI5 _).mono ?_); rintro e w' ⟨rfl, nd, rfl⟩; exact ⟨rfl, _, World.drewN_drewN ..⟩))
                    try go_wp2
                    go_meet
                    case rel => exact ⟨true, rfl, ⟨by rw [HRW.out]; rfl⟩, ⟨blk_drewN HBX.out _⟩, ⟨pw_below_drewN HB8.out _⟩⟩
                  · have HAS : Aside0 (0 < (kk : Int) → ¬ x.f0 ≤ (rdT l0 ((kk : Int) - 1)).f0) := ⟨fun _ => by rw [HQ.out]; exact has⟩
                    have hab : (x.f0 ≤ q) = False := eq_false has
                    clear has
                    have HRW : Aside0 (rowT l0 (kk : Int) = true) := ⟨row_yes (by rw [HX.out]; exact HE1.out) (by rw [HX.out]; exact HE2.out) (by rw [HX.out]; exact HE3.out) (by rw [HX.out]; exact HE4.out) (by rw [HX.out]; exact HE5.out) (by rw [HX.out]; exact H20.out) (by rw [HX.out]; exact HAS.out)⟩
                    go_quiet ((go_at_call 59; (with_reducible first | refine (hI1 _).mono ?_ | refine (hI2 _).mono ?_ | refine (hI3 _).mono ?_ | refine (hI4 _).mono ?_ | refine (hI5 _).mono ?_); rintro e w' ⟨rfl, nd, rfl⟩; exact ⟨rfl, _, World.drewN_drewN ..⟩))
                    try go_wp2
                    go_meet
                    case rel => exact ⟨false, rfl, ⟨by rw [HRW.out]; rfl⟩, ⟨blk_drewN HBX.out _⟩, ⟨pw_below_drewN HB8.out _⟩⟩
    case rest =>
      clear hI1 hI2 hI3 hI4 hI5 hz0 hz1 hz2 hz3 hz4 hz5 HE1 HE2 HE3 HE4 HE5 HBX HB8
      obtain ⟨b, rfl, HBV, HBX, HB8⟩ := hcut
      by_cases hrow : rowT l0 (kk : Int) = true
      rotate_left
      · obtain rfl : b = true := by rw [HBV.out, Bool.eq_false_iff.mpr hrow]; rfl
        have HR1 : Aside0 (r = false) := ⟨by
          rw [← HR.out]
          exact areT_no HLT.out (by unfold okT; rw [Bool.eq_false_iff.mpr hrow, Bool.false_and])⟩
        clear hrow
        go_wp2
        go_ret
        exact ⟨by rw [HR1.out]; rfl, HB8.out⟩
      obtain rfl : b = false := by rw [HBV.out, hrow]; rfl
      have HROW := Aside0.mk hrow
      clear hrow
      obtain ⟨⟨hz0, hz1, hz2, hz3, hz4, hz5⟩, _⟩ := cells6 HBX.out
      go_wp2
      go_loopg [5] x.f5.length (fun gg v5 wr => ∃ mm : Nat, v5 = .int .i64 mm ∧ Aside0 (mm ≤ x.f5.length ∧ x.f5.length - mm ≤ gg) ∧ Aside0 (∀ (j : Nat) (hj : j < x.f5.length), j < mm → metB l0 (kk : Int) x.f5[j] = true) ∧ Aside0 (wr.heap[gb]? = some (.cells #[.int .i64 x.f0, .int .i64 x.f1, .int .i64 x.f2, .int .i64 x.f3, .int .i64 x.f4, .slice A5 x.f5.length c5] 61 (0, 0))) ∧ Aside0 (Below w.heap.size w wr))
      case atStart => exact ⟨0, rfl, ⟨by omega⟩, ⟨fun j _ hj => by omega⟩, HBX, HB8⟩
      case round =>
        obtain ⟨mm, rfl, HI2, HOK2, HBX2, HB9⟩ := hrel
        clear hz0 hz1 hz2 hz3 hz4 hz5 HBX HB8
        by_cases hlt2 : mm < x.f5.length
        rotate_left
        · have hltb2 : ((mm : Int) < (x.f5.length : Int)) = False := eq_false (by omega)
          have HOKK : Aside0 (okT l0 (kk : Int) = true) := ⟨by
            unfold okT
            rw [HROW.out, Bool.true_and, HX.out, List.all_eq_true]
            intro id hid
            obtain ⟨j, hj, rfl⟩ := List.mem_iff_getElem.1 hid
            exact HOK2.out j hj (by omega)⟩
          obtain ⟨⟨hz0, hz1, hz2, hz3, hz4, hz5⟩, _⟩ := cells6 HBX2.out
          clear hlt2
          go_wp2
          go_roundg (l0.length - (kk + 1))
          case measure => have := HI.out; have := HLT.out; omega
          case rel =>
            have hw : wrap64 ((kk : Int) + 1) = ((kk + 1 : Nat) : Int) := by have := HLT.out; have := HS.out.1; unfold wrap64; omega
            refine ⟨kk + 1, by rw [hw], ⟨by have := HLT.out; omega⟩, ⟨fun j hj => ?_⟩, HB9⟩
            by_cases e : j = kk
            · subst e
              exact HOKK.out
            · exact HOK.out j (by omega)
        have hltb2 : ((mm : Int) < (x.f5.length : Int)) = True := eq_true (by omega)
        obtain ⟨a5, e5, hc5⟩ := atIntT (HI6.out _ HB9.out) mm hlt2
        subst e5
        obtain ⟨id, hid⟩ : ∃ id, x.f5[mm] = id := ⟨_, rfl⟩
        rw [hid] at hc5
        have HID : Aside0 (x.f5[mm]? = some id) := ⟨by rw [List.getElem?_eq_getElem hlt2, hid]⟩
        have HLT2 := Aside0.mk hlt2
        clear hid hlt2
        have HNO : Aside0 (metB l0 (kk : Int) id = false → r = false) := ⟨fun h => by
          rw [← HR.out]
          refine areT_no HLT.out ?_
          unfold okT
          rw [HX.out, Bool.and_eq_false_iff]
          right
          rw [List.all_eq_false]
          exact ⟨id, List.mem_of_getElem? HID.out, by rw [h]; simp⟩⟩
        have hr_ := findT_range l0 id
        have hfid_ := @findT_id l0 id
        have HMET : Aside0 (metB l0 (kk : Int) id = decide (0 ≤ findT l0 id ∧ findT l0 id ≠ kk ∧ (((rdT l0 (findT l0 id)).f5.count x.f0 : Nat) : Int) = ((x.f5.count id : Nat) : Int))) := ⟨by unfold metB; rw [HX.out]⟩
        have HSELF : Aside0 (id = x.f0 → findT l0 id = kk) := ⟨fun h => by rw [h, ← HX.out]; exact findT_self (asc_of HOK.out HROW.out) HLT.out⟩
        obtain ⟨k0_, hk0_⟩ := sFindTeam_ev l0 id HS.out.1
        have hF : ∀ W, Below w.heap.size w W → Calls Try.prog 16 #[.slice (some ad) l0.length c0, .int .i64 id] W fun e w' => e = .returned (.int .i64 (findT l0 id)) ∧ Below W.heap.size W w' := fun W hW => (spec_FindTeam.calls k0_ (some ad) c0 l0 id _ W (Kd.C_below HR0.out hW) HC0.out (hk0_ k0_ (Nat.le_refl _))).mono (by rintro e w' ⟨h, nd, rfl⟩; exact ⟨h, pw_below_drewN (Below.refl _ _) _⟩)
        clear hk0_
        generalize findT l0 id = f at hr_ hfid_ HMET HSELF hF
        have HF := Aside0.mk hF
        have hF := HF.out
        obtain ⟨⟨hz0, hz1, hz2, hz3, hz4, hz5⟩, _⟩ := cells6 HBX2.out
        by_cases hf : f < 0
        · have hfb : (f < 0) = True := eq_true hf
          have HR1 : Aside0 (r = false) := ⟨HNO.out (by rw [HMET.out]; exact decide_eq_false (fun h => by omega))⟩
          clear hf hr_ hfid_ HF
          go_wp2_with (go_at_call 16; refine (hF _ ?hw).mono ?_; (case hw => (repeat (first | exact HB9.out | apply pw_below_drewN | apply below_drew1))); rintro e w10 ⟨rfl, hb10⟩; have HB10 := Aside0.mk (below_step (by repeat (first | exact HB9.out | apply pw_below_drewN | apply below_drew1)) hb10); have HBX3 := Aside0.mk (blk_below (by repeat (first | exact HBX2.out | refine blk_drewN ?_ _ | refine blk_drew ?_)) hb10); clear hb10 hz0 hz1 hz2 hz3 hz4 hz5 hF; obtain ⟨⟨hz0, hz1, hz2, hz3, hz4, hz5⟩, _⟩ := cells6 HBX3.out)
          go_quiet (fail)
          go_wp2
          go_ret
          exact ⟨by rw [HR1.out]; rfl, pw_below_drewN HB10.out _⟩
        have hfb : (f < 0) = False := eq_false hf
        obtain ⟨fn, rfl⟩ : ∃ n : Nat, f = (n : Int) := ⟨f.toNat, by omega⟩
        have hfl : ((fn : Int) < (l0.length : Int)) = True := eq_true hr_.2
        have hy0 := hfid_ (by omega)
        by_cases hsame : (fn : Int) = (kk : Int)
        · have hsb : ((fn : Int) == (kk : Int)) = true := beq_iff_eq.mpr hsame
          have HR1 : Aside0 (r = false) := ⟨HNO.out (by rw [HMET.out]; exact decide_eq_false (fun h => h.2.1 hsame))⟩
          clear hf hr_ hfid_ HF hsame hy0
          go_wp2_with (go_at_call 16; refine (hF _ ?hw).mono ?_; (case hw => (repeat (first | exact HB9.out | apply pw_below_drewN | apply below_drew1))); rintro e w10 ⟨rfl, hb10⟩; have HB10 := Aside0.mk (below_step (by repeat (first | exact HB9.out | apply pw_below_drewN | apply below_drew1)) hb10); have HBX3 := Aside0.mk (blk_below (by repeat (first | exact HBX2.out | refine blk_drewN ?_ _ | refine blk_drew ?_)) hb10); clear hb10 hz0 hz1 hz2 hz3 hz4 hz5 hF; obtain ⟨⟨hz0, hz1, hz2, hz3, hz4, hz5⟩, _⟩ := cells6 HBX3.out)
          go_quiet (fail)
          go_wp2
          go_ret
          exact ⟨by rw [HR1.out]; rfl, pw_below_drewN HB10.out _⟩
        have hsb : ((fn : Int) == (kk : Int)) = false := beq_false_of_ne hsame
        have HNS : Aside0 ((fn : Int) ≠ kk) := ⟨hsame⟩
        have HFN : Aside0 (fn < l0.length) := ⟨by omega⟩
        obtain ⟨ad2, A6, c6, e6, hat2, hl6, hi6⟩ := tmAt_of HR0.out fn HFN.out
        cases e6
        have hy5 : (rdT l0 (fn : Int)).f5.length ≤ 1099511627776 := HS.out.2 _ (rdTm_mem (by omega) (by omega))
        obtain ⟨y, hy⟩ : ∃ y, rdT l0 (fn : Int) = y := ⟨_, rfl⟩
        rw [hy] at hat2 hl6 hi6 hy0 HMET hy5
        have HAT2 := Aside0.mk hat2
        have HY0 := Aside0.mk hy0
        obtain ⟨k1, hk1⟩ := spec_l19Countex x.f5 id HX5.out
        obtain ⟨k2, hk2⟩ := spec_l19Countex y.f5 x.f0 hy5
        have hT1 : ∀ W, Below w.heap.size w W → Calls Try.prog 60 #[.slice (some a5) x.f5.length c5, .int .i64 id] W fun e w' => e = .returned (.int .i64 ((x.f5.count id : Nat) : Int)) ∧ Drawn0 W w' := fun W hW => spec_l19Count.calls k1 (some a5) c5 x.f5 id _ W (HI6.out W hW) HL5.out hk1
        have hT2 : ∀ W, Below w.heap.size w W → Calls Try.prog 60 #[.slice A6 y.f5.length c6, .int .i64 x.f0] W fun e w' => e = .returned (.int .i64 ((y.f5.count x.f0 : Nat) : Int)) ∧ Drawn0 W w' := fun W hW => spec_l19Count.calls k2 A6 c6 y.f5 x.f0 _ W (Kd.C_below hi6 hW) hl6 hk2
        clear hf hr_ hfid_ HF hsame hy0 hy hat2 hl6 hy5 hk1 hk2
        generalize x.f5.count id = n1 at hT1 HMET
        generalize y.f5.count x.f0 = n2 at hT2 HMET
        by_cases hn : n2 = n1
        rotate_left
        · have hnb : ((n1 : Int) != (n2 : Int)) = true := bne_iff_ne.mpr (by omega)
          have hnb2 : ((n2 : Int) != (n1 : Int)) = true := bne_iff_ne.mpr (by omega)
          have HR1 : Aside0 (r = false) := ⟨HNO.out (by rw [HMET.out]; exact decide_eq_false (fun h => hn (by omega)))⟩
          clear hn
          go_wp2_with (go_at_call 16; refine (hF _ ?hw).mono ?_; (case hw => (repeat (first | exact HB9.out | apply pw_below_drewN | apply below_drew1))); rintro e w10 ⟨rfl, hb10⟩; have HB10 := Aside0.mk (below_step (by repeat (first | exact HB9.out | apply pw_below_drewN | apply below_drew1)) hb10); have HBX3 := Aside0.mk (blk_below (by repeat (first | exact HBX2.out | refine blk_drewN ?_ _ | refine blk_drew ?_)) hb10); clear hb10 hz0 hz1 hz2 hz3 hz4 hz5 hF; obtain ⟨⟨hz0, hz1, hz2, hz3, hz4, hz5⟩, _⟩ := cells6 HBX3.out)
          obtain ⟨y0, _, _, _, _, y5⟩ := HAT2.out.below HB10.out
          rw [HY0.out] at y0
          go_quiet ((go_at_call 60; (with_reducible first | refine (hT1 _ ?hw).mono ?_ | refine (hT2 _ ?hw).mono ?_); (case hw => exact pw_below_drewN HB10.out _); rintro e w' ⟨rfl, nd, rfl⟩; exact ⟨rfl, _, World.drewN_drewN ..⟩))
          go_wp2
          go_ret
          exact ⟨by rw [HR1.out]; rfl, pw_below_drewN HB10.out _⟩
        have hnb : ((n1 : Int) != (n2 : Int)) = false := bne_eq_false_iff_eq.mpr (by omega)
        have hnb2 : ((n2 : Int) != (n1 : Int)) = false := bne_eq_false_iff_eq.mpr (by omega)
        have HYES : Aside0 (metB l0 (kk : Int) id = true) := ⟨by rw [HMET.out]; exact decide_eq_true ⟨by omega, HNS.out, by omega⟩⟩
        clear hn
        go_wp2_with (go_at_call 16; refine (hF _ ?hw).mono ?_; (case hw => (repeat (first | exact HB9.out | apply pw_below_drewN | apply below_drew1))); rintro e w10 ⟨rfl, hb10⟩; have HB10 := Aside0.mk (below_step (by repeat (first | exact HB9.out | apply pw_below_drewN | apply below_drew1)) hb10); have HBX3 := Aside0.mk (blk_below (by repeat (first | exact HBX2.out | refine blk_drewN ?_ _ | refine blk_drew ?_)) hb10); clear hb10 hz0 hz1 hz2 hz3 hz4 hz5 hF; obtain ⟨⟨hz0, hz1, hz2, hz3, hz4, hz5⟩, _⟩ := cells6 HBX3.out)
        obtain ⟨y0, _, _, _, _, y5⟩ := HAT2.out.below HB10.out
        rw [HY0.out] at y0
        go_quiet ((go_at_call 60; (with_reducible first | refine (hT1 _ ?hw).mono ?_ | refine (hT2 _ ?hw).mono ?_); (case hw => exact pw_below_drewN HB10.out _); rintro e w' ⟨rfl, nd, rfl⟩; exact ⟨rfl, _, World.drewN_drewN ..⟩))
        go_wp2
        go_roundg (x.f5.length - (mm + 1))
        case measure => have := HI2.out; have := HLT2.out; omega
        case rel =>
          have hw : wrap64 ((mm : Int) + 1) = ((mm + 1 : Nat) : Int) := by have := HLT2.out; have := HX5.out; unfold wrap64; omega
          refine ⟨mm + 1, by rw [hw], ⟨by have := HLT2.out; omega⟩, ⟨fun j hj hjn => ?_⟩, ⟨blk_drewN HBX3.out _⟩, ⟨pw_below_drewN HB10.out _⟩⟩
          by_cases e : j = mm
          · subst e
            rw [(List.getElem?_eq_some_iff.1 HID.out).2]
            exact HYES.out
          · exact HOK2.out j hj (by omega)
end Go.Proofs.Ytiimiogpiflkdaa.A
end

section
namespace Go.Proofs.Ytiimiogpiflkdaa.A
open Go.RowKit Go.Proofs.YtiimiogpiflkdaaW.PrintWords Go.Proofs.YtiimiogpiflkdaaW.PrintLast Go.Proofs.YtiimiogpiflkdaaW.PrintMore
attribute [local go_sem] max2_int min2_int max_two min_two max_three min_three max_four min_four   -- for this text's walks alone
set_option linter.unusedVariables false
set_option linter.unusedSimpArgs false
def spec_l19Copy.l0 : Nat → List (S61) → List (S61) → Int → Option ((List (S61)))
  | 0, _, _, _ => none
  | k + 1, x0, x3, x4 => if x4 < (x0.length : Int) then (if 0 ≤ x4 then ((some (([] : List Int) : List Int)).bind fun y145 => (if y145.length + ((rd_T61 x0 x4).f5).length < 17592186044416 then (if x3.length < 2199023255552 then (spec_l19Copy.l0 k x0 (x3 ++ [(⟨(rd_T61 x0 x4).f0, (rd_T61 x0 x4).f1, (rd_T61 x0 x4).f2, (rd_T61 x0 x4).f3, (rd_T61 x0 x4).f4, (y145 ++ ((rd_T61 x0 x4).f5))⟩ : S61)]) (wrap64 (x4 + 1))) else (none)) else (none))) else (none)) else (some x3)
def spec_l19Copy.f (k : Nat) (l0 : List (S61)) : Option ((List (S61))) := spec_l19Copy.l0 k l0 (([] : List (S61))) 0
set_option maxHeartbeats 8000000 in
set_option maxRecDepth 100000 in
theorem spec_l19Copy.calls (k : Nat) (A0 : Option Addr) (c0 : Nat) (l0 : List (S61)) (r : List (S61)) (w : World) (hr0 : Kd.C k61 w A0 l0.length l0) (hc0 : l0.length ≤ c0) (h : spec_l19Copy.f k l0 = some r) :
  Calls Try.prog 74 #[.slice A0 l0.length c0] w fun e w' => ∃ v0_ : Value, e = .returned (v0_) ∧ Kd.S k61 61 w' w.heap.size (fun _ => True) v0_ r ∧ Below w.heap.size w w' := by
 have hu61 := Try.underlying61
 have HR0 := Aside0.mk hr0
 have HC0 := Aside0.mk hc0
 clear hr0 hc0
 have HB := Aside0.mk (Below.refl w.heap.size w)
 have H : (spec_l19Copy.l0 k l0 (([] : List (S61))) 0) = some r := h
 clear h
 obtain ⟨y140, hy140⟩ : ∃ y_ : List (S61), y_ = (([] : List (S61))) := ⟨_, rfl⟩
 replace H : (spec_l19Copy.l0 k l0 y140 0) = some r := by first | (rw [hy140]; with_reducible exact H) | (have H2_ := (Option.bind_some _ _).symm.trans H; rw [hy140]; with_reducible exact H2_) | (have H2_ := (Option.bind_some _ _).symm.trans H; with_reducible exact H2_) | with_reducible exact H | (rw [hy140]; exact H) | exact H
 have Ny140 := Aside0.mk hy140
 clear hy140
 have H' := Aside0.mk H
 clear H
 go_enter Try.func74, Try.ntmps74
 go_wp2_with (first | ((with_reducible refine gate_dst (N := 6) rfl ?_); refine Kd.S_lit k61 _ 61 ?hg (N := 6) ?hd (xs := ([] : List (S61))) (inner := []) (ok := fun _ => True) (okp := fun _ => True) ?hr ?hp (fun _ hk => hk) trivial (Below.refl _ _) (Nat.le_refl _) (by simp) ?_; (case hd => rfl); (case hg => rfl); (case hr => first | (go_simp; done) | (go_simp; rfl)); (case hp => exact (Reps.none _ _)); intro v141 w2 ho3 hb hg_ hnew_; clear hg_ hnew_; (first | rw [← Ny140.out] at ho3 | (simp only [Int.reduceToNat] at ho3; rw [← Ny140.out] at ho3)); have n0_ := Aside0.mk (Kd.S_lower ho3 (below_size (by repeat (first | (with_reducible first | exact HB.out | apply below_alloc | apply pw_below_drewN | apply below_drew1) | exact HB.out)))); have n1_ := Aside0.mk (below_step (by repeat (first | (with_reducible first | exact HB.out | apply below_alloc | apply pw_below_drewN | apply below_drew1) | exact HB.out)) hb); clear HB; have HO142 := n0_; have HB := n1_; clear n0_ n1_; clear hb ho3))
 go_loopg [3, 4] k (fun kq v3 v4 w' => ∃ (x3_1 : List (S61)) (x4_1 : Int), v4 = .int .i64 x4_1 ∧ Aside0 (spec_l19Copy.l0 kq l0 x3_1 x4_1 = some r) ∧ Aside0 (kq ≤ k) ∧ Aside0 (Kd.S k61 61 w' w.heap.size (fun _ => True) v3 x3_1) ∧ Aside0 (Below w.heap.size w w'))
 case atStart => exact ⟨(y140), (0), (by first | rfl | (simp; done) | (simp [*]; done)), H', ⟨Nat.le_refl _⟩, ⟨by (with_reducible repeat (first | apply Kd.S_alloc | apply Kd.S_drewN | apply Kd.S_drew)); exact HO142.out⟩, ⟨by repeat (first | (with_reducible first | exact HB.out | apply below_alloc | apply pw_below_drewN | apply below_drew1) | exact HB.out)⟩⟩
 case round =>
  clear H'
  try clear p2
  obtain ⟨x3_1, x4_1, rfl, HA, HK1, HO_3, HB⟩ := hrel
  cases gk with
  | zero => exact absurd HA.out (by simp [spec_l19Copy.l0])
  | succ k1 =>
   have H := HA.out
   clear HA
   simp only [spec_l19Copy.l0] at H
   by_cases c4 : x4_1 < (l0.length : Int)
   ·
    rw [if_pos c4] at H
    have c4b0 : decide (x4_1 < (l0.length : Int)) = true := decide_eq_true c4
    clear c4
    by_cases c5 : 0 ≤ x4_1
    ·
     rw [if_pos c5] at H
     have c5b0 : decide (0 ≤ x4_1) = true := decide_eq_true c5
     clear c5
     obtain ⟨y145, hy145⟩ : ∃ y_ : List Int, y_ = (([] : List Int)) := ⟨_, rfl⟩
     replace H : (if y145.length + ((rd_T61 l0 x4_1).f5).length < 17592186044416 then (if x3_1.length < 2199023255552 then (spec_l19Copy.l0 k1 l0 (x3_1 ++ [(⟨(rd_T61 l0 x4_1).f0, (rd_T61 l0 x4_1).f1, (rd_T61 l0 x4_1).f2, (rd_T61 l0 x4_1).f3, (rd_T61 l0 x4_1).f4, (y145 ++ ((rd_T61 l0 x4_1).f5))⟩ : S61)]) (wrap64 (x4_1 + 1))) else (none)) else (none)) = some r := by first | (rw [hy145]; with_reducible exact H) | (have H2_ := (Option.bind_some _ _).symm.trans H; rw [hy145]; with_reducible exact H2_) | (have H2_ := (Option.bind_some _ _).symm.trans H; with_reducible exact H2_) | with_reducible exact H | (rw [hy145]; exact H) | exact H
     have Ny145 := Aside0.mk hy145
     clear hy145
     by_cases c6 : y145.length + ((rd_T61 l0 x4_1).f5).length < 17592186044416
     ·
      rw [if_pos c6] at H
      have LMc6 := Aside0.mk c6
      clear c6
      obtain ⟨y148, hy148⟩ : ∃ y_ : List Int, y_ = (y145 ++ ((rd_T61 l0 x4_1).f5)) := ⟨_, rfl⟩
      replace H : (if x3_1.length < 2199023255552 then (spec_l19Copy.l0 k1 l0 (x3_1 ++ [(⟨(rd_T61 l0 x4_1).f0, (rd_T61 l0 x4_1).f1, (rd_T61 l0 x4_1).f2, (rd_T61 l0 x4_1).f3, (rd_T61 l0 x4_1).f4, y148⟩ : S61)]) (wrap64 (x4_1 + 1))) else (none)) = some r := by first | (rw [hy148]; with_reducible exact H) | (have H2_ := (Option.bind_some _ _).symm.trans H; rw [hy148]; with_reducible exact H2_) | (have H2_ := (Option.bind_some _ _).symm.trans H; with_reducible exact H2_) | with_reducible exact H | (rw [hy148]; exact H) | exact H
      have Ny148 := Aside0.mk hy148
      clear hy148
      by_cases c7 : x3_1.length < 2199023255552
      ·
       rw [if_pos c7] at H
       have LMc7 := Aside0.mk c7
       clear c7
       obtain ⟨y151, hy151⟩ : ∃ y_ : List (S61), y_ = (x3_1 ++ [(⟨(rd_T61 l0 x4_1).f0, (rd_T61 l0 x4_1).f1, (rd_T61 l0 x4_1).f2, (rd_T61 l0 x4_1).f3, (rd_T61 l0 x4_1).f4, y148⟩ : S61)]) := ⟨_, rfl⟩
       replace H : (spec_l19Copy.l0 k1 l0 y151 (wrap64 (x4_1 + 1))) = some r := by first | (rw [hy151]; with_reducible exact H) | (have H2_ := (Option.bind_some _ _).symm.trans H; rw [hy151]; with_reducible exact H2_) | (have H2_ := (Option.bind_some _ _).symm.trans H; with_reducible exact H2_) | with_reducible exact H | (rw [hy151]; exact H) | exact H
       have Ny151 := Aside0.mk hy151
       clear hy151
       have H' := Aside0.mk H
       clear H
       have p143 : 0 ≤ (x4_1 : Int) := of_decide_eq_true (by first | (with_reducible assumption) | assumption)
       have q143 : x4_1 < (l0.length : Int) := of_decide_eq_true (by first | (with_reducible assumption) | assumption)
       obtain ⟨ad143, A143_5, c143_5, e143, hx143_0, hx143_1, hx143_2, hx143_3, hx143_4, hx143_5, hl143_5, hi143_5⟩ := at_T61 HR0.out x4_1 p143 q143
       cases e143
       replace hx143_0 := (HB.out.cell (World.block_lt_of_cell? w _ hx143_0)).trans hx143_0
       replace hx143_1 := (HB.out.cell (World.block_lt_of_cell? w _ hx143_1)).trans hx143_1
       replace hx143_2 := (HB.out.cell (World.block_lt_of_cell? w _ hx143_2)).trans hx143_2
       replace hx143_3 := (HB.out.cell (World.block_lt_of_cell? w _ hx143_3)).trans hx143_3
       replace hx143_4 := (HB.out.cell (World.block_lt_of_cell? w _ hx143_4)).trans hx143_4
       replace hx143_5 := (HB.out.cell (World.block_lt_of_cell? w _ hx143_5)).trans hx143_5
       have HR143_5 := Aside0.mk hi143_5
       have HC143_5 := Aside0.mk hl143_5
       clear hi143_5 hl143_5
       replace p143 := eq_true p143
       replace q143 := eq_true q143
       go_wp2_with (first | ((with_reducible refine gate_dst (N := 5) rfl ?_); refine box_event ?hg (N := 5) ?hd (cs := #[.int .i64 0, .int .i64 0, .int .i64 0, .int .i64 0, .int .i64 0, .slice none 0 0]) (t := 61) ?hr ?_; (case hd => rfl); (case hg => rfl); (case hr => first | (go_simp; done) | (go_simp; rfl)); intro gb144 hg w8 hbox hb; have n0_ := Aside0.mk (Kd.S_below (Kd.S_elderB (by (with_reducible repeat (first | apply Kd.S_alloc | apply Kd.S_drewN | apply Kd.S_drew)); exact HO_3.out) gb144 (Nat.le_of_eq hg.symm)) hb); have n1_ := Aside0.mk (below_step (by repeat (first | (with_reducible first | exact HB.out | apply below_alloc | apply pw_below_drewN | apply below_drew1) | exact HB.out)) hb); have n2_ := Aside0.mk (hbox); have n3_ := Aside0.mk ((by rw [hg]; exact (below_size (by repeat (first | (with_reducible first | exact HB.out | apply below_alloc | apply pw_below_drewN | apply below_drew1) | exact HB.out))) : w.heap.size ≤ gb144)); have n4_ := Aside0.mk ((by rw [hg]; exact (below_size (by repeat (first | (with_reducible first | exact HB.out | apply below_alloc | apply pw_below_drewN | apply below_drew1) | exact HB.out))) : w.heap.size ≤ gb144)); clear HO_3; clear HB; have HO_3 := n0_; have HB := n1_; have BK144 := n2_; have GW144 := n3_; have GE144 := n4_; clear n0_ n1_ n2_ n3_ n4_; clear hb hbox hg; have hcz9_0 : w8.cell? ⟨gb144, 0, none⟩ = some (.int .i64 0) := (blk_cell BK144.out 0).trans rfl; have hcz9_1 : w8.cell? ⟨gb144, 1, none⟩ = some (.int .i64 0) := (blk_cell BK144.out 1).trans rfl; have hcz9_2 : w8.cell? ⟨gb144, 2, none⟩ = some (.int .i64 0) := (blk_cell BK144.out 2).trans rfl; have hcz9_3 : w8.cell? ⟨gb144, 3, none⟩ = some (.int .i64 0) := (blk_cell BK144.out 3).trans rfl; have hcz9_4 : w8.cell? ⟨gb144, 4, none⟩ = some (.int .i64 0) := (blk_cell BK144.out 4).trans rfl; have hcz9_5 : w8.cell? ⟨gb144, 5, none⟩ = some (.slice none 0 0) := (blk_cell BK144.out 5).trans rfl; have hfz9_0 := blk_frozen BK144.out 0; have hfz9_1 := blk_frozen BK144.out 1; have hfz9_2 := blk_frozen BK144.out 2; have hfz9_3 := blk_frozen BK144.out 3; have hfz9_4 := blk_frozen BK144.out 4; have hfz9_5 := blk_frozen BK144.out 5) | ((with_reducible refine gate_dst (N := 17) rfl ?_); refine Kd.R_lit (Kd.int .i64) _ 3 ?hg (N := 17) ?hd (xs := ([] : List Int)) (inner := []) (ok := fun _ => True) (okp := fun _ => True) ?hr ?hp (fun _ hk => hk) trivial (Below.refl _ _) (Nat.le_refl _) (by simp) ?_; (case hd => rfl); (case hg => rfl); (case hr => first | (go_simp; done) | (go_simp; rfl)); (case hp => exact (Reps.none _ _)); intro v146 w10 ho11 hb hg_ hnew_; clear hg_ hnew_; (first | rw [← Ny145.out] at ho11 | (simp only [Int.reduceToNat] at ho11; rw [← Ny145.out] at ho11)); have n0_ := Aside0.mk (Kd.S_elder' (by (with_reducible repeat (first | apply Kd.S_alloc | apply Kd.S_drewN | apply Kd.S_drew)); exact (Kd.S_mono (Kd.S_far (p := ⟨gb144, 5, none⟩) (Kd.S_far (p := ⟨gb144, 4, none⟩) (Kd.S_far (p := ⟨gb144, 3, none⟩) (Kd.S_far (p := ⟨gb144, 2, none⟩) (Kd.S_far (p := ⟨gb144, 1, none⟩) (Kd.S_far (p := ⟨gb144, 0, none⟩) (Kd.S_mono HO_3.out (fun k_ hk => (⟨hk, hk.2⟩ : _ ∧ k_ ≠ gb144))) (fun _ hk => hk.2) (.int .i64 ((rd_T61 l0 x4_1).f0))) (fun _ hk => hk.2) (.int .i64 ((rd_T61 l0 x4_1).f1))) (fun _ hk => hk.2) (.int .i64 ((rd_T61 l0 x4_1).f2))) (fun _ hk => hk.2) (.int .i64 ((rd_T61 l0 x4_1).f3))) (fun _ hk => hk.2) (.int .i64 ((rd_T61 l0 x4_1).f4))) (fun _ hk => hk.2) (.slice A143_5 ((rd_T61 l0 x4_1).f5).length c143_5)) (fun _ h_ => h_.1))) (Kd.R_base ho11) hb); have n1_ := Aside0.mk (Kd.R_lower ho11 (below_size (by repeat (first | (with_reducible first | exact HB.out | apply below_alloc | apply pw_below_drewN | apply below_drew1 | refine below_set ?_ GE144.out) | exact HB.out)))); have n2_ := Aside0.mk (blk_below (g := gb144) (o := .cells #[.int .i64 ((rd_T61 l0 x4_1).f0), .int .i64 ((rd_T61 l0 x4_1).f1), .int .i64 ((rd_T61 l0 x4_1).f2), .int .i64 ((rd_T61 l0 x4_1).f3), .int .i64 ((rd_T61 l0 x4_1).f4), .slice A143_5 ((rd_T61 l0 x4_1).f5).length c143_5] 61 (0, 0)) (by (with_reducible repeat (first | refine blk_drewN ?_ _ | refine blk_drew ?_ | refine blk_alloc ?_ _)); refine blk_put (cs := #[.int .i64 ((rd_T61 l0 x4_1).f0), .int .i64 ((rd_T61 l0 x4_1).f1), .int .i64 ((rd_T61 l0 x4_1).f2), .int .i64 ((rd_T61 l0 x4_1).f3), .int .i64 ((rd_T61 l0 x4_1).f4), .slice none 0 0]) ?_ 5 _ rfl; (with_reducible repeat (first | refine blk_drewN ?_ _ | refine blk_drew ?_ | refine blk_alloc ?_ _)); refine blk_put (cs := #[.int .i64 ((rd_T61 l0 x4_1).f0), .int .i64 ((rd_T61 l0 x4_1).f1), .int .i64 ((rd_T61 l0 x4_1).f2), .int .i64 ((rd_T61 l0 x4_1).f3), .int .i64 0, .slice none 0 0]) ?_ 4 _ rfl; (with_reducible repeat (first | refine blk_drewN ?_ _ | refine blk_drew ?_ | refine blk_alloc ?_ _)); refine blk_put (cs := #[.int .i64 ((rd_T61 l0 x4_1).f0), .int .i64 ((rd_T61 l0 x4_1).f1), .int .i64 ((rd_T61 l0 x4_1).f2), .int .i64 0, .int .i64 0, .slice none 0 0]) ?_ 3 _ rfl; (with_reducible repeat (first | refine blk_drewN ?_ _ | refine blk_drew ?_ | refine blk_alloc ?_ _)); refine blk_put (cs := #[.int .i64 ((rd_T61 l0 x4_1).f0), .int .i64 ((rd_T61 l0 x4_1).f1), .int .i64 0, .int .i64 0, .int .i64 0, .slice none 0 0]) ?_ 2 _ rfl; (with_reducible repeat (first | refine blk_drewN ?_ _ | refine blk_drew ?_ | refine blk_alloc ?_ _)); refine blk_put (cs := #[.int .i64 ((rd_T61 l0 x4_1).f0), .int .i64 0, .int .i64 0, .int .i64 0, .int .i64 0, .slice none 0 0]) ?_ 1 _ rfl; (with_reducible repeat (first | refine blk_drewN ?_ _ | refine blk_drew ?_ | refine blk_alloc ?_ _)); refine blk_put (cs := #[.int .i64 0, .int .i64 0, .int .i64 0, .int .i64 0, .int .i64 0, .slice none 0 0]) ?_ 0 _ rfl; (with_reducible repeat (first | refine blk_drewN ?_ _ | refine blk_drew ?_ | refine blk_alloc ?_ _)); exact BK144.out) hb); have n3_ := Aside0.mk (below_step (by repeat (first | (with_reducible first | exact HB.out | apply below_alloc | apply pw_below_drewN | apply below_drew1 | refine below_set ?_ GE144.out) | exact HB.out)) hb); clear HO_3; clear BK144; clear HB; have HO_3 := n0_; have HO147 := n1_; have BK144 := n2_; have HB := n3_; clear n0_ n1_ n2_ n3_; clear hb ho11; have hcz12_0 : w10.cell? ⟨gb144, 0, none⟩ = some (.int .i64 ((rd_T61 l0 x4_1).f0)) := (blk_cell BK144.out 0).trans rfl; have hcz12_1 : w10.cell? ⟨gb144, 1, none⟩ = some (.int .i64 ((rd_T61 l0 x4_1).f1)) := (blk_cell BK144.out 1).trans rfl; have hcz12_2 : w10.cell? ⟨gb144, 2, none⟩ = some (.int .i64 ((rd_T61 l0 x4_1).f2)) := (blk_cell BK144.out 2).trans rfl; have hcz12_3 : w10.cell? ⟨gb144, 3, none⟩ = some (.int .i64 ((rd_T61 l0 x4_1).f3)) := (blk_cell BK144.out 3).trans rfl; have hcz12_4 : w10.cell? ⟨gb144, 4, none⟩ = some (.int .i64 ((rd_T61 l0 x4_1).f4)) := (blk_cell BK144.out 4).trans rfl; have hcz12_5 : w10.cell? ⟨gb144, 5, none⟩ = some (.slice A143_5 ((rd_T61 l0 x4_1).f5).length c143_5) := (blk_cell BK144.out 5).trans rfl; have hfz12_0 := blk_frozen BK144.out 0; have hfz12_1 := blk_frozen BK144.out 1; have hfz12_2 := blk_frozen BK144.out 2; have hfz12_3 := blk_frozen BK144.out 3; have hfz12_4 := blk_frozen BK144.out 4; have hfz12_5 := blk_frozen BK144.out 5) | ((with_reducible refine gate_builtin (b := .append) (xs := #[.tmp 17, .tmp 19]) rfl ?_); at_builtin; refine Kd.R_append_rows (Kd.int .i64) (w0 := w) w.heap.size rfl (.tmp 17) (.tmp 19) 41 3 (.int .i64 0) 8 rfl Try.underlying41 info3 rfl (by decide) (by omega) v146 y145 ((rd_T61 l0 x4_1).f5) _ _ _ (fun _ => True) (fun _ => False) rfl rfl ?aO ?aR (fun _ _ h => h) (fun _ h => h.elim) ?aF ?aB ?aS ?aL ?_; (case aR => repeat (first | exact (Kd.C_below HR143_5.out HB.out) | (with_reducible refine Kd.C_alloc ?_ _) | (with_reducible refine Kd.C_drewN ?_ _) | (with_reducible refine Kd.C_drew ?_))); (case aB => exact (by repeat (first | (with_reducible first | exact HB.out | apply below_alloc | apply pw_below_drewN | apply below_drew1 | refine below_set ?_ GE144.out) | exact HB.out))); (case aF => exact (fun _ _ => trivial)); (case aO => exact (by (with_reducible repeat (first | apply Kd.R_alloc | apply Kd.R_drewN | apply Kd.R_drew)); exact HO147.out)); (case aS => exact (below_size (by repeat (first | (with_reducible first | exact HB.out | apply below_alloc | apply pw_below_drewN | apply below_drew1 | refine below_set ?_ GE144.out) | exact HB.out)))); (case aL => have := LMc6.out; omega); intro v149 w13 ho hb hg hat; rw [← Ny148.out] at ho; have n0_ := Aside0.mk (Kd.S_after (ok := (fun k_ => k_ ≠ gb144)) (by (with_reducible repeat (first | apply Kd.S_alloc | apply Kd.S_drewN | apply Kd.S_drew)); exact Kd.S_mono HO_3.out (fun _ hk => ⟨hk.1.2, hk.2⟩)) hg hat); have n1_ := Aside0.mk (blk_grown (g := gb144) (o := .cells #[.int .i64 ((rd_T61 l0 x4_1).f0), .int .i64 ((rd_T61 l0 x4_1).f1), .int .i64 ((rd_T61 l0 x4_1).f2), .int .i64 ((rd_T61 l0 x4_1).f3), .int .i64 ((rd_T61 l0 x4_1).f4), .slice A143_5 ((rd_T61 l0 x4_1).f5).length c143_5] 61 (0, 0)) (by (with_reducible repeat (first | refine blk_drewN ?_ _ | refine blk_drew ?_ | refine blk_alloc ?_ _)); exact BK144.out) hg (Kd.R_ne HO147.out BK144.out (by decide))); have n2_ := Aside0.mk (hb); have n3_ := Aside0.mk (ho); clear HO_3; clear BK144; clear HB; clear HO147; have HO_3 := n0_; have BK144 := n1_; have HB := n2_; have HO150 := n3_; clear n0_ n1_ n2_ n3_; clear ho hb hg hat; obtain ⟨Ao14, co14, eo14⟩ := Kd.R_slice HO150.out; subst eo14; have hcz15_0 : w13.cell? ⟨gb144, 0, none⟩ = some (.int .i64 ((rd_T61 l0 x4_1).f0)) := (blk_cell BK144.out 0).trans rfl; have hcz15_1 : w13.cell? ⟨gb144, 1, none⟩ = some (.int .i64 ((rd_T61 l0 x4_1).f1)) := (blk_cell BK144.out 1).trans rfl; have hcz15_2 : w13.cell? ⟨gb144, 2, none⟩ = some (.int .i64 ((rd_T61 l0 x4_1).f2)) := (blk_cell BK144.out 2).trans rfl; have hcz15_3 : w13.cell? ⟨gb144, 3, none⟩ = some (.int .i64 ((rd_T61 l0 x4_1).f3)) := (blk_cell BK144.out 3).trans rfl; have hcz15_4 : w13.cell? ⟨gb144, 4, none⟩ = some (.int .i64 ((rd_T61 l0 x4_1).f4)) := (blk_cell BK144.out 4).trans rfl; have hcz15_5 : w13.cell? ⟨gb144, 5, none⟩ = some (.slice A143_5 ((rd_T61 l0 x4_1).f5).length c143_5) := (blk_cell BK144.out 5).trans rfl; have hfz15_0 := blk_frozen BK144.out 0; have hfz15_1 := blk_frozen BK144.out 1; have hfz15_2 := blk_frozen BK144.out 2; have hfz15_3 := blk_frozen BK144.out 3; have hfz15_4 := blk_frozen BK144.out 4; have hfz15_5 := blk_frozen BK144.out 5) | ((with_reducible refine gate_store (t := 41) (p := 21) rfl ?_); refine store_event (t := 41) (p := 21) (v := ?vo_w16) (w1 := (w13.setCell ⟨gb144, 5, none⟩ (.slice Ao14 y148.length co14))) ?hg ?ho ?hn ?hr ?_; (case ho => rfl); (case hg => rfl); (case hn => rfl); (case hr => first | (go_simp; done) | (go_simp; rfl)); intro w16 hw; have n0_ : Aside0 (Kd.S k61 61 w16 w.heap.size (fun k_ => some k_ ≠ (.slice Ao14 y148.length co14 : Value).ownBlock ∧ k_ ≠ gb144) u3 x3_1) := ⟨(by rw [hw]; exact (by (with_reducible repeat (first | apply Kd.S_alloc | apply Kd.S_drewN | apply Kd.S_drew)); exact Kd.S_mono (Kd.S_far (p := ⟨gb144, 5, none⟩) (Kd.S_mono HO_3.out (fun k_ hk => (⟨hk, hk.1⟩ : _ ∧ k_ ≠ gb144))) (fun _ hk => hk.2) (.slice Ao14 y148.length co14)) (fun _ hk => ⟨hk.1.2, hk.1.1⟩)))⟩; have n1_ : Aside0 (Kd.R (Kd.int .i64) 3 w16 w.heap.size (fun _ => True) (.slice Ao14 y148.length co14) y148) := ⟨(by rw [hw]; exact (by (with_reducible repeat (first | apply Kd.R_alloc | apply Kd.R_drewN | apply Kd.R_drew)); exact Kd.R_mono (Kd.R_far (p := ⟨gb144, 5, none⟩) (Kd.R_types HO150.out BK144.out (by decide)) (fun _ hk => hk.2) (.slice Ao14 y148.length co14)) (fun _ hk => trivial)))⟩; have n2_ : Aside0 (w16.heap[gb144]? = some (.cells #[.int .i64 ((rd_T61 l0 x4_1).f0), .int .i64 ((rd_T61 l0 x4_1).f1), .int .i64 ((rd_T61 l0 x4_1).f2), .int .i64 ((rd_T61 l0 x4_1).f3), .int .i64 ((rd_T61 l0 x4_1).f4), .slice Ao14 y148.length co14] 61 (0, 0))) := ⟨(by rw [hw]; exact (by (with_reducible repeat (first | refine blk_drewN ?_ _ | refine blk_drew ?_ | refine blk_alloc ?_ _)); refine blk_put (cs := #[.int .i64 ((rd_T61 l0 x4_1).f0), .int .i64 ((rd_T61 l0 x4_1).f1), .int .i64 ((rd_T61 l0 x4_1).f2), .int .i64 ((rd_T61 l0 x4_1).f3), .int .i64 ((rd_T61 l0 x4_1).f4), .slice A143_5 ((rd_T61 l0 x4_1).f5).length c143_5]) ?_ 5 _ rfl; (with_reducible repeat (first | refine blk_drewN ?_ _ | refine blk_drew ?_ | refine blk_alloc ?_ _)); exact BK144.out))⟩; have n3_ : Aside0 (Below w.heap.size w w16) := ⟨(by rw [hw]; exact (by repeat (first | (with_reducible first | exact HB.out | apply below_alloc | apply pw_below_drewN | apply below_drew1 | refine below_set ?_ GE144.out) | exact HB.out)))⟩; clear hw; clear HO_3; clear HO150; clear BK144; clear HB; have HO_3 := n0_; have HO150 := n1_; have BK144 := n2_; have HB := n3_; clear n0_ n1_ n2_ n3_; have hcz17_0 : w16.cell? ⟨gb144, 0, none⟩ = some (.int .i64 ((rd_T61 l0 x4_1).f0)) := (blk_cell BK144.out 0).trans rfl; have hcz17_1 : w16.cell? ⟨gb144, 1, none⟩ = some (.int .i64 ((rd_T61 l0 x4_1).f1)) := (blk_cell BK144.out 1).trans rfl; have hcz17_2 : w16.cell? ⟨gb144, 2, none⟩ = some (.int .i64 ((rd_T61 l0 x4_1).f2)) := (blk_cell BK144.out 2).trans rfl; have hcz17_3 : w16.cell? ⟨gb144, 3, none⟩ = some (.int .i64 ((rd_T61 l0 x4_1).f3)) := (blk_cell BK144.out 3).trans rfl; have hcz17_4 : w16.cell? ⟨gb144, 4, none⟩ = some (.int .i64 ((rd_T61 l0 x4_1).f4)) := (blk_cell BK144.out 4).trans rfl; have hcz17_5 : w16.cell? ⟨gb144, 5, none⟩ = some (.slice Ao14 y148.length co14) := (blk_cell BK144.out 5).trans rfl; have hfz17_0 := blk_frozen BK144.out 0; have hfz17_1 := blk_frozen BK144.out 1; have hfz17_2 := blk_frozen BK144.out 2; have hfz17_3 := blk_frozen BK144.out 3; have hfz17_4 := blk_frozen BK144.out 4; have hfz17_5 := blk_frozen BK144.out 5) | ((with_reducible refine gate_builtin (b := .append) (xs := #[.tmp 22, .tmp 24]) rfl ?_); at_builtin; refine Kd.S_append k61 (w0 := w) w.heap.size rfl (.tmp 22) (.tmp 24) 25 61 (.agg #[(.int .i64 0), (.int .i64 0), (.int .i64 0), (.int .i64 0), (.int .i64 0), (.slice none 0 0)]) 64 rfl Try.underlying25 info61 rfl (by decide) (by omega) u3 x3_1 (⟨(rd_T61 l0 x4_1).f0, (rd_T61 l0 x4_1).f1, (rd_T61 l0 x4_1).f2, (rd_T61 l0 x4_1).f3, (rd_T61 l0 x4_1).f4, y148⟩ : S61) [.int .i64 ((rd_T61 l0 x4_1).f0), .int .i64 ((rd_T61 l0 x4_1).f1), .int .i64 ((rd_T61 l0 x4_1).f2), .int .i64 ((rd_T61 l0 x4_1).f3), .int .i64 ((rd_T61 l0 x4_1).f4), .slice Ao14 y148.length co14] (fun k_ => k_ ≠ gb144) (fun k_ => some k_ = (.slice Ao14 y148.length co14 : Value).ownBlock) rfl rfl ?aP (fun k_ hk_ => ((Kd.R_mono (ok' := fun k_ => ((fun k_ => k_ ≠ gb144)) k_ ∧ some k_ ≠ (u3 : Value).ownBlock) (Kd.R_types (Kd.R_apart' (HO150.out) (Kd.S_typed HO_3.out) (by decide)) BK144.out (by decide)) (fun k_ hk => ⟨hk.2, hk.1.2⟩))).1 k_ hk_.symm) ?aF ?aO ?aB ?aS ?aL ?_; (case aP => exact k61_mkM _ _ _ (⟨(rd_T61 l0 x4_1).f0, (rd_T61 l0 x4_1).f1, (rd_T61 l0 x4_1).f2, (rd_T61 l0 x4_1).f3, (rd_T61 l0 x4_1).f4, y148⟩ : S61) (Kd.R_mono (Kd.R_tight rfl (Kd.R_mono (ok' := fun k_ => ((fun k_ => k_ ≠ gb144)) k_ ∧ some k_ ≠ (u3 : Value).ownBlock) (Kd.R_types (Kd.R_apart' (HO150.out) (Kd.S_typed HO_3.out) (by decide)) BK144.out (by decide)) (fun k_ hk => ⟨hk.2, hk.1.2⟩))) (fun _ h_ => h_))); (case aB => exact (by repeat (first | (with_reducible first | exact HB.out | apply below_alloc | apply pw_below_drewN | apply below_drew1 | refine below_set ?_ GE144.out) | exact HB.out))); (case aF => exact (fun k_ hk => Kd.freshB (g := gb144) (o := .cells #[.int .i64 ((rd_T61 l0 x4_1).f0), .int .i64 ((rd_T61 l0 x4_1).f1), .int .i64 ((rd_T61 l0 x4_1).f2), .int .i64 ((rd_T61 l0 x4_1).f3), .int .i64 ((rd_T61 l0 x4_1).f4), .slice Ao14 y148.length co14] 61 (0, 0)) (by (with_reducible repeat (first | refine blk_drewN ?_ _ | refine blk_drew ?_ | refine blk_alloc ?_ _)); exact BK144.out) k_ hk)); (case aO => exact (by (with_reducible repeat (first | apply Kd.S_alloc | apply Kd.S_drewN | apply Kd.S_drew)); exact Kd.S_mono HO_3.out (fun k_ hk => ⟨hk.2, fun e_ => hk.1 e_⟩))); (case aS => exact (below_size (by repeat (first | (with_reducible first | exact HB.out | apply below_alloc | apply pw_below_drewN | apply below_drew1 | refine below_set ?_ GE144.out) | exact HB.out)))); (case aL => have := LMc7.out; omega); intro v152 w18 ho hb hg hat; rw [← Ny151.out] at ho; have n0_ := Aside0.mk (blk_grown (g := gb144) (o := .cells #[.int .i64 ((rd_T61 l0 x4_1).f0), .int .i64 ((rd_T61 l0 x4_1).f1), .int .i64 ((rd_T61 l0 x4_1).f2), .int .i64 ((rd_T61 l0 x4_1).f3), .int .i64 ((rd_T61 l0 x4_1).f4), .slice Ao14 y148.length co14] 61 (0, 0)) (by (with_reducible repeat (first | refine blk_drewN ?_ _ | refine blk_drew ?_ | refine blk_alloc ?_ _)); exact BK144.out) hg (Kd.S_away HO_3.out (fun _ hk => hk.2))); have n1_ := Aside0.mk (hb); have n2_ := Aside0.mk (ho); clear BK144; clear HB; clear HO_3; clear HO150; have BK144 := n0_; have HB := n1_; have HO153 := n2_; clear n0_ n1_ n2_; clear ho hb hg hat))
       go_roundg k1
       case measure => have := HK1.out; omega
       case rel => exact ⟨(y151), (wrap64 (x4_1 + 1)), (by first | rfl | (simp; done) | (simp [*]; done)), H', ⟨by have := HK1.out; omega⟩, ⟨by (with_reducible repeat (first | apply Kd.S_alloc | apply Kd.S_drewN | apply Kd.S_drew)); exact Kd.S_mono HO153.out (fun _ hk => trivial)⟩, ⟨by repeat (first | (with_reducible first | exact HB.out | apply below_alloc | apply pw_below_drewN | apply below_drew1 | refine below_set ?_ GE144.out) | exact HB.out)⟩⟩
      ·
       rw [if_neg c7] at H
       exact absurd H (by simp)
     ·
      rw [if_neg c6] at H
      exact absurd H (by simp)
    ·
     rw [if_neg c5] at H
     exact absurd H (by simp)
   ·
    rw [if_neg c4] at H
    have c4b0 : decide (x4_1 < (l0.length : Int)) = false := decide_eq_false c4
    clear c4
    obtain rfl := Option.some.inj H
    go_wp2
    go_ret
    exact ⟨_, by first | rfl | (simp [errW_none, errW_some] <;> rfl) | (simp [*, errW_none, errW_some] <;> rfl), by (with_reducible repeat (first | apply Kd.S_alloc | apply Kd.S_drewN | apply Kd.S_drew)); exact HO_3.out, by repeat (first | (with_reducible first | exact HB.out | apply below_alloc | apply pw_below_drewN | apply below_drew1) | exact HB.out)⟩
end Go.Proofs.Ytiimiogpiflkdaa.A
end

section
namespace Go.Proofs.Ytiimiogpiflkdaa.A
open Go.RowKit Go.Proofs.YtiimiogpiflkdaaW.PrintWords Go.Proofs.YtiimiogpiflkdaaW.PrintLast Go.Proofs.YtiimiogpiflkdaaW.PrintMore
attribute [local go_sem] max2_int min2_int max_two min_two max_three min_three max_four min_four   -- for this text's walks alone
set_option linter.unusedVariables false
set_option linter.unusedSimpArgs false
mutual
def spec_AddResult.j0 : Nat → List (S61) → Int → Int → Int → Int → Int → List (S61) → Int → Int → Bool → Option ((List (S61)) × Bool)
  | 0, _, _, _, _, _, _, _, _, _, _ => none
  | k + 1, x0, x1, x2, x3, x4, x5, x14, x15, x16, x55 => if x55 = true then (some (x14, false)) else (if 0 ≤ x15 then (if x15 < (x14.length : Int) then (if ((rd_T61 x14 x15).f5).length < 17592186044416 then ((some (x14.set (x15 : Int).toNat (⟨(rd_T61 x14 x15).f0, (rd_T61 x14 x15).f1, (rd_T61 x14 x15).f2, (rd_T61 x14 x15).f3, (rd_T61 x14 x15).f4, (((rd_T61 x14 x15).f5) ++ [x2])⟩ : S61) : List (S61))).bind fun y167 => (if 0 ≤ x16 then (if x16 < (x14.length : Int) then (if ((rd_T61 y167 x16).f5).length < 17592186044416 then ((some (y167.set (x16 : Int).toNat (⟨(rd_T61 y167 x16).f0, (rd_T61 y167 x16).f1, (rd_T61 y167 x16).f2, (rd_T61 y167 x16).f3, (rd_T61 y167 x16).f4, (((rd_T61 y167 x16).f5) ++ [x1])⟩ : S61) : List (S61))).bind fun y172 => ((some (y172.set (x15 : Int).toNat (⟨(rd_T61 y172 x15).f0, (rd_T61 y172 x15).f1, (rd_T61 y172 x15).f2, (rd_T61 y172 x15).f3, wrap64 (((rd_T61 y172 x15).f4) + 1), (rd_T61 y172 x15).f5⟩ : S61) : List (S61))).bind fun y174 => ((some (y174.set (x15 : Int).toNat (⟨(rd_T61 y174 x15).f0, (rd_T61 y174 x15).f1, (rd_T61 y174 x15).f2, wrap64 (((rd_T61 y174 x15).f3) + x4), (rd_T61 y174 x15).f4, (rd_T61 y174 x15).f5⟩ : S61) : List (S61))).bind fun y176 => ((some (y176.set (x16 : Int).toNat (⟨(rd_T61 y176 x16).f0, (rd_T61 y176 x16).f1, (rd_T61 y176 x16).f2, wrap64 (((rd_T61 y176 x16).f3) + x5), (rd_T61 y176 x16).f4, (rd_T61 y176 x16).f5⟩ : S61) : List (S61))).bind fun y178 => (if x3 = 1 then (spec_AddResult.j1 k x0 (y178.set (x15 : Int).toNat (⟨(rd_T61 y178 x15).f0, (rd_T61 y178 x15).f1, wrap64 (((rd_T61 y178 x15).f2) + 1), (rd_T61 y178 x15).f3, (rd_T61 y178 x15).f4, (rd_T61 y178 x15).f5⟩ : S61))) else (spec_AddResult.j1 k x0 (y178.set (x16 : Int).toNat (⟨(rd_T61 y178 x16).f0, (rd_T61 y178 x16).f1, wrap64 (((rd_T61 y178 x16).f2) + 1), (rd_T61 y178 x16).f3, (rd_T61 y178 x16).f4, (rd_T61 y178 x16).f5⟩ : S61)))))))) else (none)) else (none)) else (none))) else (none)) else (none)) else (none))
def spec_AddResult.j1 : Nat → List (S61) → List (S61) → Option ((List (S61)) × Bool)
  | 0, _, _ => none
  | k + 1, x0, x14 => (spec_AreTeams.f k x14).bind fun t183 => (if t183 = true then (some (x14, true)) else ((spec_l19Copy.f k x0).bind fun t184 => (some (t184, false))))
end
def spec_AddResult.f (k : Nat) (l0 : List (S61)) (a1 : Int) (a2 : Int) (a3 : Int) (a4 : Int) (a5 : Int) : Option ((List (S61)) × Bool) := (spec_l19Copy.f k l0).bind fun t154 => ((spec_FindTeam.f k l0 a1).bind fun t157 => ((spec_FindTeam.f k l0 a2).bind fun t158 => ((spec_AreTeams.f k l0).bind fun t159 => (if t159 = true then (if t157 < 0 then (spec_AddResult.j0 k l0 a1 a2 a3 a4 a5 t154 t157 t158 true) else (if t158 < 0 then (spec_AddResult.j0 k l0 a1 a2 a3 a4 a5 t154 t157 t158 true) else (if t157 = t158 then (spec_AddResult.j0 k l0 a1 a2 a3 a4 a5 t154 t157 t158 true) else ((spec_l1In.f a3 1 2).bind fun t160 => (if t160 = true then ((spec_l1In.f a4 0 1000).bind fun t161 => (if t161 = true then ((spec_l1In.f a5 0 1000).bind fun t162 => (spec_AddResult.j0 k l0 a1 a2 a3 a4 a5 t154 t157 t158 (!t162))) else (spec_AddResult.j0 k l0 a1 a2 a3 a4 a5 t154 t157 t158 true))) else (spec_AddResult.j0 k l0 a1 a2 a3 a4 a5 t154 t157 t158 true)))))) else (spec_AddResult.j0 k l0 a1 a2 a3 a4 a5 t154 t157 t158 true)))))
set_option maxHeartbeats 8000000 in
set_option maxRecDepth 100000 in
theorem spec_AddResult.calls (k : Nat) (A0 : Option Addr) (c0 : Nat) (l0 : List (S61)) (a1 : Int) (a2 : Int) (a3 : Int) (a4 : Int) (a5 : Int) (r1 : List (S61)) (r2 : Bool) (w : World) (hr0 : Kd.C k61 w A0 l0.length l0) (hc0 : l0.length ≤ c0) (h : spec_AddResult.f k l0 a1 a2 a3 a4 a5 = some (r1, r2)) :
  Calls Try.prog 42 #[.slice A0 l0.length c0, .int .i64 a1, .int .i64 a2, .int .i64 a3, .int .i64 a4, .int .i64 a5] w fun e w' => ∃ v0_ : Value, e = .returned (.tuple #[v0_, .bool r2]) ∧ Kd.S k61 61 w' w.heap.size (fun _ => True) v0_ r1 ∧ Below w.heap.size w w' := by
 have HR0 := Aside0.mk hr0
 have HC0 := Aside0.mk hc0
 clear hr0 hc0
 have HB := Aside0.mk (Below.refl w.heap.size w)
 have H : ((spec_l19Copy.f k l0).bind fun t154 => ((spec_FindTeam.f k l0 a1).bind fun t157 => ((spec_FindTeam.f k l0 a2).bind fun t158 => ((spec_AreTeams.f k l0).bind fun t159 => (if t159 = true then (if t157 < 0 then (spec_AddResult.j0 k l0 a1 a2 a3 a4 a5 t154 t157 t158 true) else (if t158 < 0 then (spec_AddResult.j0 k l0 a1 a2 a3 a4 a5 t154 t157 t158 true) else (if t157 = t158 then (spec_AddResult.j0 k l0 a1 a2 a3 a4 a5 t154 t157 t158 true) else ((spec_l1In.f a3 1 2).bind fun t160 => (if t160 = true then ((spec_l1In.f a4 0 1000).bind fun t161 => (if t161 = true then ((spec_l1In.f a5 0 1000).bind fun t162 => (spec_AddResult.j0 k l0 a1 a2 a3 a4 a5 t154 t157 t158 (!t162))) else (spec_AddResult.j0 k l0 a1 a2 a3 a4 a5 t154 t157 t158 true))) else (spec_AddResult.j0 k l0 a1 a2 a3 a4 a5 t154 t157 t158 true)))))) else (spec_AddResult.j0 k l0 a1 a2 a3 a4 a5 t154 t157 t158 true)))))) = some (r1, r2) := h
 clear h
 replace H := Option.bind_eq_some_iff.mp H
 obtain ⟨t154, A70, H⟩ := H
 replace H : ((spec_FindTeam.f k l0 a1).bind fun t157 => ((spec_FindTeam.f k l0 a2).bind fun t158 => ((spec_AreTeams.f k l0).bind fun t159 => (if t159 = true then (if t157 < 0 then (spec_AddResult.j0 k l0 a1 a2 a3 a4 a5 t154 t157 t158 true) else (if t158 < 0 then (spec_AddResult.j0 k l0 a1 a2 a3 a4 a5 t154 t157 t158 true) else (if t157 = t158 then (spec_AddResult.j0 k l0 a1 a2 a3 a4 a5 t154 t157 t158 true) else ((spec_l1In.f a3 1 2).bind fun t160 => (if t160 = true then ((spec_l1In.f a4 0 1000).bind fun t161 => (if t161 = true then ((spec_l1In.f a5 0 1000).bind fun t162 => (spec_AddResult.j0 k l0 a1 a2 a3 a4 a5 t154 t157 t158 (!t162))) else (spec_AddResult.j0 k l0 a1 a2 a3 a4 a5 t154 t157 t158 true))) else (spec_AddResult.j0 k l0 a1 a2 a3 a4 a5 t154 t157 t158 true)))))) else (spec_AddResult.j0 k l0 a1 a2 a3 a4 a5 t154 t157 t158 true))))) = some (r1, r2) := H
 have A7 := Aside0.mk A70
 clear A70
 replace H := Option.bind_eq_some_iff.mp H
 obtain ⟨t157, A80, H⟩ := H
 replace H : ((spec_FindTeam.f k l0 a2).bind fun t158 => ((spec_AreTeams.f k l0).bind fun t159 => (if t159 = true then (if t157 < 0 then (spec_AddResult.j0 k l0 a1 a2 a3 a4 a5 t154 t157 t158 true) else (if t158 < 0 then (spec_AddResult.j0 k l0 a1 a2 a3 a4 a5 t154 t157 t158 true) else (if t157 = t158 then (spec_AddResult.j0 k l0 a1 a2 a3 a4 a5 t154 t157 t158 true) else ((spec_l1In.f a3 1 2).bind fun t160 => (if t160 = true then ((spec_l1In.f a4 0 1000).bind fun t161 => (if t161 = true then ((spec_l1In.f a5 0 1000).bind fun t162 => (spec_AddResult.j0 k l0 a1 a2 a3 a4 a5 t154 t157 t158 (!t162))) else (spec_AddResult.j0 k l0 a1 a2 a3 a4 a5 t154 t157 t158 true))) else (spec_AddResult.j0 k l0 a1 a2 a3 a4 a5 t154 t157 t158 true)))))) else (spec_AddResult.j0 k l0 a1 a2 a3 a4 a5 t154 t157 t158 true)))) = some (r1, r2) := H
 have A8 := Aside0.mk A80
 clear A80
 replace H := Option.bind_eq_some_iff.mp H
 obtain ⟨t158, A90, H⟩ := H
 replace H : ((spec_AreTeams.f k l0).bind fun t159 => (if t159 = true then (if t157 < 0 then (spec_AddResult.j0 k l0 a1 a2 a3 a4 a5 t154 t157 t158 true) else (if t158 < 0 then (spec_AddResult.j0 k l0 a1 a2 a3 a4 a5 t154 t157 t158 true) else (if t157 = t158 then (spec_AddResult.j0 k l0 a1 a2 a3 a4 a5 t154 t157 t158 true) else ((spec_l1In.f a3 1 2).bind fun t160 => (if t160 = true then ((spec_l1In.f a4 0 1000).bind fun t161 => (if t161 = true then ((spec_l1In.f a5 0 1000).bind fun t162 => (spec_AddResult.j0 k l0 a1 a2 a3 a4 a5 t154 t157 t158 (!t162))) else (spec_AddResult.j0 k l0 a1 a2 a3 a4 a5 t154 t157 t158 true))) else (spec_AddResult.j0 k l0 a1 a2 a3 a4 a5 t154 t157 t158 true)))))) else (spec_AddResult.j0 k l0 a1 a2 a3 a4 a5 t154 t157 t158 true))) = some (r1, r2) := H
 have A9 := Aside0.mk A90
 clear A90
 have HC10 := Aside0.mk H
 clear H
 go_enter Try.func42, Try.ntmps42
 go_upto_region 4 with (first | ((with_reducible refine gate_callee (f := 74) rfl ?_); refine goesL_ (some 18) rfl rfl Try.func74 (by kernel_rfl) rfl #[.slice A0 l0.length c0] rfl (by (try simp only [List.map_toArray, List.map_cons, List.map_nil]); first | done | rfl | (simp only [List.length_drop, List.length_take]; rfl)) ?_; (with_reducible refine (spec_l19Copy.calls k _ _ l0 t154 _ ?side1 ?side2 A7.out).mono ?_); (case side1 => repeat (first | exact HR0.out | (with_reducible refine Kd.C_alloc ?_ _) | (with_reducible refine Kd.C_drewN ?_ _) | (with_reducible refine Kd.C_drew ?_))); (case side2 => exact HC0.out); rintro e w11 ⟨v155, rfl, ho0, hb⟩; refine ⟨_, rfl, ?_⟩; have n0_ := Aside0.mk (Kd.S_lower ho0 (below_size (by repeat (first | (with_reducible first | exact HB.out | apply below_alloc | apply pw_below_drewN | apply below_drew1) | exact HB.out)))); have n1_ := Aside0.mk (below_step (by repeat (first | (with_reducible first | exact HB.out | apply below_alloc | apply pw_below_drewN | apply below_drew1) | exact HB.out)) hb); clear HB; have HO156 := n0_; have HB := n1_; clear n0_ n1_; (try clear hb); (try clear hb2); (try clear hk); (try clear hi); (try clear ho0)) | ((with_reducible refine gate_callee (f := 16) rfl ?_); refine goesL_ (some 21) rfl rfl Try.func16 (by kernel_rfl) rfl #[.slice A0 l0.length c0, .int .i64 a1] rfl (by (try simp only [List.map_toArray, List.map_cons, List.map_nil]); first | done | rfl | (simp only [List.length_drop, List.length_take]; rfl)) ?_; (with_reducible refine (spec_FindTeam.calls k _ _ l0 a1 t157 _ ?side1 ?side2 A8.out).mono ?_); (case side1 => repeat (first | exact (Kd.C_below HR0.out HB.out) | (with_reducible refine Kd.C_alloc ?_ _) | (with_reducible refine Kd.C_drewN ?_ _) | (with_reducible refine Kd.C_drew ?_))); (case side2 => exact HC0.out); rintro e w' ⟨rfl, ⟨nd, rfl⟩⟩; refine ⟨_, rfl, ?_⟩) | ((with_reducible refine gate_callee (f := 16) rfl ?_); refine goesL_ (some 24) rfl rfl Try.func16 (by kernel_rfl) rfl #[.slice A0 l0.length c0, .int .i64 a2] rfl (by (try simp only [List.map_toArray, List.map_cons, List.map_nil]); first | done | rfl | (simp only [List.length_drop, List.length_take]; rfl)) ?_; (with_reducible refine (spec_FindTeam.calls k _ _ l0 a2 t158 _ ?side1 ?side2 A9.out).mono ?_); (case side1 => repeat (first | exact (Kd.C_below HR0.out (by repeat (first | (with_reducible first | exact HB.out | apply below_alloc | apply pw_below_drewN | apply below_drew1) | exact HB.out))) | (with_reducible refine Kd.C_alloc ?_ _) | (with_reducible refine Kd.C_drewN ?_ _) | (with_reducible refine Kd.C_drew ?_))); (case side2 => exact HC0.out); rintro e w' ⟨rfl, ⟨nd, rfl⟩⟩; refine ⟨_, rfl, ?_⟩))
 (try simp only [Act.put, List.setIfInBounds_toArray, List.set_cons_zero, List.set_cons_succ])
 go_cut [55] (fun v55 wc => ∃ (kq : Nat) (x55_9 : Bool), v55 = .bool x55_9 ∧ Aside0 (spec_AddResult.j0 kq l0 a1 a2 a3 a4 a5 t154 t157 t158 x55_9 = some (r1, r2)) ∧ Aside0 (kq ≤ k) ∧ Aside0 (Kd.S k61 61 wc w.heap.size (fun _ => True) v155 t154) ∧ Aside0 (Below w.heap.size w wc))
 case first =>
  have H := HC10.out
  clear HC10
  replace H := Option.bind_eq_some_iff.mp H
  obtain ⟨t159, A120, H⟩ := H
  replace H : (if t159 = true then (if t157 < 0 then (spec_AddResult.j0 k l0 a1 a2 a3 a4 a5 t154 t157 t158 true) else (if t158 < 0 then (spec_AddResult.j0 k l0 a1 a2 a3 a4 a5 t154 t157 t158 true) else (if t157 = t158 then (spec_AddResult.j0 k l0 a1 a2 a3 a4 a5 t154 t157 t158 true) else ((spec_l1In.f a3 1 2).bind fun t160 => (if t160 = true then ((spec_l1In.f a4 0 1000).bind fun t161 => (if t161 = true then ((spec_l1In.f a5 0 1000).bind fun t162 => (spec_AddResult.j0 k l0 a1 a2 a3 a4 a5 t154 t157 t158 (!t162))) else (spec_AddResult.j0 k l0 a1 a2 a3 a4 a5 t154 t157 t158 true))) else (spec_AddResult.j0 k l0 a1 a2 a3 a4 a5 t154 t157 t158 true)))))) else (spec_AddResult.j0 k l0 a1 a2 a3 a4 a5 t154 t157 t158 true)) = some (r1, r2) := H
  have A12 := Aside0.mk A120
  clear A120
  by_cases c13 : t159 = true
  ·
   subst c13
   have H1 : (if t157 < 0 then (spec_AddResult.j0 k l0 a1 a2 a3 a4 a5 t154 t157 t158 true) else (if t158 < 0 then (spec_AddResult.j0 k l0 a1 a2 a3 a4 a5 t154 t157 t158 true) else (if t157 = t158 then (spec_AddResult.j0 k l0 a1 a2 a3 a4 a5 t154 t157 t158 true) else ((spec_l1In.f a3 1 2).bind fun t160 => (if t160 = true then ((spec_l1In.f a4 0 1000).bind fun t161 => (if t161 = true then ((spec_l1In.f a5 0 1000).bind fun t162 => (spec_AddResult.j0 k l0 a1 a2 a3 a4 a5 t154 t157 t158 (!t162))) else (spec_AddResult.j0 k l0 a1 a2 a3 a4 a5 t154 t157 t158 true))) else (spec_AddResult.j0 k l0 a1 a2 a3 a4 a5 t154 t157 t158 true)))))) = some (r1, r2) := by rw [if_pos rfl] at H; exact H
   clear H
   have H := H1
   clear H1
   by_cases c14 : t157 < 0
   ·
    rw [if_pos c14] at H
    have c14b0 : decide (t157 < 0) = true := decide_eq_true c14
    clear c14
    (first | rw [c14b0] | (simp only [i64_w, i32_w]; rw [c14b0]) | skip)
    have H' := Aside0.mk H
    clear H
    go_wp2_with (first | ((with_reducible refine gate_callee (f := 20) rfl ?_); refine goesL_ (some 26) rfl rfl Try.func20 (by kernel_rfl) rfl #[.slice A0 l0.length c0] rfl (by (try simp only [List.map_toArray, List.map_cons, List.map_nil]); first | done | rfl | (simp only [List.length_drop, List.length_take]; rfl)) ?_; (with_reducible refine (spec_AreTeams.calls k _ _ l0 true _ ?side1 ?side2 A12.out).mono ?_); (case side1 => repeat (first | exact (Kd.C_below HR0.out HB.out) | (with_reducible refine Kd.C_alloc ?_ _) | (with_reducible refine Kd.C_drewN ?_ _) | (with_reducible refine Kd.C_drew ?_))); (case side2 => exact HC0.out); rintro e w15 ⟨rfl, hb⟩; refine ⟨_, rfl, ?_⟩; have n0_ := Aside0.mk (Kd.S_below (by (with_reducible repeat (first | apply Kd.S_alloc | apply Kd.S_drewN | apply Kd.S_drew)); exact HO156.out) hb); have n1_ := Aside0.mk (below_step (by repeat (first | (with_reducible first | exact HB.out | apply below_alloc | apply pw_below_drewN | apply below_drew1) | exact HB.out)) hb); clear HO156; clear HB; have HO156 := n0_; have HB := n1_; clear n0_ n1_; (try clear hb); (try clear hb2); (try clear hk); (try clear hi)))
    go_meet
    case rel => exact ⟨_, (true), (by first | rfl | (simp; done) | (simp [*]; done)), H', ⟨by first | omega | exact Nat.le_refl _⟩, ⟨by (with_reducible repeat (first | apply Kd.S_alloc | apply Kd.S_drewN | apply Kd.S_drew)); exact HO156.out⟩, ⟨by repeat (first | (with_reducible first | exact HB.out | apply below_alloc | apply pw_below_drewN | apply below_drew1) | exact HB.out)⟩⟩
   ·
    rw [if_neg c14] at H
    have c14b0 : decide (t157 < 0) = false := decide_eq_false c14
    clear c14
    (first | rw [c14b0] | (simp only [i64_w, i32_w]; rw [c14b0]) | skip)
    by_cases c16 : t158 < 0
    ·
     rw [if_pos c16] at H
     have c16b0 : decide (t158 < 0) = true := decide_eq_true c16
     clear c16
     have H' := Aside0.mk H
     clear H
     go_wp2_with (first | ((with_reducible refine gate_callee (f := 20) rfl ?_); refine goesL_ (some 26) rfl rfl Try.func20 (by kernel_rfl) rfl #[.slice A0 l0.length c0] rfl (by (try simp only [List.map_toArray, List.map_cons, List.map_nil]); first | done | rfl | (simp only [List.length_drop, List.length_take]; rfl)) ?_; (with_reducible refine (spec_AreTeams.calls k _ _ l0 true _ ?side1 ?side2 A12.out).mono ?_); (case side1 => repeat (first | exact (Kd.C_below HR0.out HB.out) | (with_reducible refine Kd.C_alloc ?_ _) | (with_reducible refine Kd.C_drewN ?_ _) | (with_reducible refine Kd.C_drew ?_))); (case side2 => exact HC0.out); rintro e w17 ⟨rfl, hb⟩; refine ⟨_, rfl, ?_⟩; have n0_ := Aside0.mk (Kd.S_below (by (with_reducible repeat (first | apply Kd.S_alloc | apply Kd.S_drewN | apply Kd.S_drew)); exact HO156.out) hb); have n1_ := Aside0.mk (below_step (by repeat (first | (with_reducible first | exact HB.out | apply below_alloc | apply pw_below_drewN | apply below_drew1) | exact HB.out)) hb); clear HO156; clear HB; have HO156 := n0_; have HB := n1_; clear n0_ n1_; (try clear hb); (try clear hb2); (try clear hk); (try clear hi)))
     go_meet
     case rel => exact ⟨_, (true), (by first | rfl | (simp; done) | (simp [*]; done)), H', ⟨by first | omega | exact Nat.le_refl _⟩, ⟨by (with_reducible repeat (first | apply Kd.S_alloc | apply Kd.S_drewN | apply Kd.S_drew)); exact HO156.out⟩, ⟨by repeat (first | (with_reducible first | exact HB.out | apply below_alloc | apply pw_below_drewN | apply below_drew1) | exact HB.out)⟩⟩
    ·
     rw [if_neg c16] at H
     have c16b0 : decide (t158 < 0) = false := decide_eq_false c16
     clear c16
     by_cases c18 : t157 = t158
     ·
      rw [if_pos c18] at H
      have c18b0 : (t157 == t158) = true := beq_iff_eq.mpr c18
      have c18b1 : (t157 != t158) = false := bne_eq_false_iff_eq.mpr c18
      clear c18
      have H' := Aside0.mk H
      clear H
      go_wp2_with (first | ((with_reducible refine gate_callee (f := 20) rfl ?_); refine goesL_ (some 26) rfl rfl Try.func20 (by kernel_rfl) rfl #[.slice A0 l0.length c0] rfl (by (try simp only [List.map_toArray, List.map_cons, List.map_nil]); first | done | rfl | (simp only [List.length_drop, List.length_take]; rfl)) ?_; (with_reducible refine (spec_AreTeams.calls k _ _ l0 true _ ?side1 ?side2 A12.out).mono ?_); (case side1 => repeat (first | exact (Kd.C_below HR0.out HB.out) | (with_reducible refine Kd.C_alloc ?_ _) | (with_reducible refine Kd.C_drewN ?_ _) | (with_reducible refine Kd.C_drew ?_))); (case side2 => exact HC0.out); rintro e w19 ⟨rfl, hb⟩; refine ⟨_, rfl, ?_⟩; have n0_ := Aside0.mk (Kd.S_below (by (with_reducible repeat (first | apply Kd.S_alloc | apply Kd.S_drewN | apply Kd.S_drew)); exact HO156.out) hb); have n1_ := Aside0.mk (below_step (by repeat (first | (with_reducible first | exact HB.out | apply below_alloc | apply pw_below_drewN | apply below_drew1) | exact HB.out)) hb); clear HO156; clear HB; have HO156 := n0_; have HB := n1_; clear n0_ n1_; (try clear hb); (try clear hb2); (try clear hk); (try clear hi)))
      go_meet
      case rel => exact ⟨_, (true), (by first | rfl | (simp; done) | (simp [*]; done)), H', ⟨by first | omega | exact Nat.le_refl _⟩, ⟨by (with_reducible repeat (first | apply Kd.S_alloc | apply Kd.S_drewN | apply Kd.S_drew)); exact HO156.out⟩, ⟨by repeat (first | (with_reducible first | exact HB.out | apply below_alloc | apply pw_below_drewN | apply below_drew1) | exact HB.out)⟩⟩
     ·
      rw [if_neg c18] at H
      have c18b0 : (t157 == t158) = false := beq_eq_false_iff_ne.mpr c18
      have c18b1 : (t157 != t158) = true := bne_iff_ne.mpr c18
      replace H := Option.bind_eq_some_iff.mp H
      obtain ⟨t160, A200, H⟩ := H
      replace H : (if t160 = true then ((spec_l1In.f a4 0 1000).bind fun t161 => (if t161 = true then ((spec_l1In.f a5 0 1000).bind fun t162 => (spec_AddResult.j0 k l0 a1 a2 a3 a4 a5 t154 t157 t158 (!t162))) else (spec_AddResult.j0 k l0 a1 a2 a3 a4 a5 t154 t157 t158 true))) else (spec_AddResult.j0 k l0 a1 a2 a3 a4 a5 t154 t157 t158 true)) = some (r1, r2) := H
      have A20 := Aside0.mk A200
      clear A200
      by_cases c21 : t160 = true
      ·
       subst c21
       have H1 : ((spec_l1In.f a4 0 1000).bind fun t161 => (if t161 = true then ((spec_l1In.f a5 0 1000).bind fun t162 => (spec_AddResult.j0 k l0 a1 a2 a3 a4 a5 t154 t157 t158 (!t162))) else (spec_AddResult.j0 k l0 a1 a2 a3 a4 a5 t154 t157 t158 true))) = some (r1, r2) := by rw [if_pos rfl] at H; exact H
       clear H
       have H := H1
       clear H1
       replace H := Option.bind_eq_some_iff.mp H
       obtain ⟨t161, A220, H⟩ := H
       replace H : (if t161 = true then ((spec_l1In.f a5 0 1000).bind fun t162 => (spec_AddResult.j0 k l0 a1 a2 a3 a4 a5 t154 t157 t158 (!t162))) else (spec_AddResult.j0 k l0 a1 a2 a3 a4 a5 t154 t157 t158 true)) = some (r1, r2) := H
       have A22 := Aside0.mk A220
       clear A220
       by_cases c23 : t161 = true
       ·
        subst c23
        have H1 : ((spec_l1In.f a5 0 1000).bind fun t162 => (spec_AddResult.j0 k l0 a1 a2 a3 a4 a5 t154 t157 t158 (!t162))) = some (r1, r2) := by rw [if_pos rfl] at H; exact H
        clear H
        have H := H1
        clear H1
        replace H := Option.bind_eq_some_iff.mp H
        obtain ⟨t162, A240, H⟩ := H
        replace H : (spec_AddResult.j0 k l0 a1 a2 a3 a4 a5 t154 t157 t158 (!t162)) = some (r1, r2) := H
        have A24 := Aside0.mk A240
        clear A240
        have H' := Aside0.mk H
        clear H
        go_wp2_with (first | ((with_reducible refine gate_callee (f := 20) rfl ?_); refine goesL_ (some 26) rfl rfl Try.func20 (by kernel_rfl) rfl #[.slice A0 l0.length c0] rfl (by (try simp only [List.map_toArray, List.map_cons, List.map_nil]); first | done | rfl | (simp only [List.length_drop, List.length_take]; rfl)) ?_; (with_reducible refine (spec_AreTeams.calls k _ _ l0 true _ ?side1 ?side2 A12.out).mono ?_); (case side1 => repeat (first | exact (Kd.C_below HR0.out HB.out) | (with_reducible refine Kd.C_alloc ?_ _) | (with_reducible refine Kd.C_drewN ?_ _) | (with_reducible refine Kd.C_drew ?_))); (case side2 => exact HC0.out); rintro e w25 ⟨rfl, hb⟩; refine ⟨_, rfl, ?_⟩; have n0_ := Aside0.mk (Kd.S_below (by (with_reducible repeat (first | apply Kd.S_alloc | apply Kd.S_drewN | apply Kd.S_drew)); exact HO156.out) hb); have n1_ := Aside0.mk (below_step (by repeat (first | (with_reducible first | exact HB.out | apply below_alloc | apply pw_below_drewN | apply below_drew1) | exact HB.out)) hb); clear HO156; clear HB; have HO156 := n0_; have HB := n1_; clear n0_ n1_; (try clear hb); (try clear hb2); (try clear hk); (try clear hi)) | (go_at_call 59; (with_reducible refine (spec_l1In.calls a3 1 2 true _ A20.out).mono ?_); rintro e w' ⟨rfl, ⟨nd, rfl⟩⟩) | (go_at_call 59; (with_reducible refine (spec_l1In.calls a4 0 1000 true _ A22.out).mono ?_); rintro e w' ⟨rfl, ⟨nd, rfl⟩⟩) | (go_at_call 59; (with_reducible refine (spec_l1In.calls a5 0 1000 t162 _ A24.out).mono ?_); rintro e w' ⟨rfl, ⟨nd, rfl⟩⟩))
        go_meet
        case rel => exact ⟨_, (!t162), (by first | rfl | (simp; done) | (simp [*]; done)), H', ⟨by first | omega | exact Nat.le_refl _⟩, ⟨by (with_reducible repeat (first | apply Kd.S_alloc | apply Kd.S_drewN | apply Kd.S_drew)); exact HO156.out⟩, ⟨by repeat (first | (with_reducible first | exact HB.out | apply below_alloc | apply pw_below_drewN | apply below_drew1) | exact HB.out)⟩⟩
       ·
        replace c23 := Bool.eq_false_iff.mpr c23
        subst c23
        have H1 : (spec_AddResult.j0 k l0 a1 a2 a3 a4 a5 t154 t157 t158 true) = some (r1, r2) := by rw [if_neg (show ¬ (false = true) by decide)] at H; exact H
        clear H
        have H := H1
        clear H1
        have H' := Aside0.mk H
        clear H
        go_wp2_with (first | ((with_reducible refine gate_callee (f := 20) rfl ?_); refine goesL_ (some 26) rfl rfl Try.func20 (by kernel_rfl) rfl #[.slice A0 l0.length c0] rfl (by (try simp only [List.map_toArray, List.map_cons, List.map_nil]); first | done | rfl | (simp only [List.length_drop, List.length_take]; rfl)) ?_; (with_reducible refine (spec_AreTeams.calls k _ _ l0 true _ ?side1 ?side2 A12.out).mono ?_); (case side1 => repeat (first | exact (Kd.C_below HR0.out HB.out) | (with_reducible refine Kd.C_alloc ?_ _) | (with_reducible refine Kd.C_drewN ?_ _) | (with_reducible refine Kd.C_drew ?_))); (case side2 => exact HC0.out); rintro e w26 ⟨rfl, hb⟩; refine ⟨_, rfl, ?_⟩; have n0_ := Aside0.mk (Kd.S_below (by (with_reducible repeat (first | apply Kd.S_alloc | apply Kd.S_drewN | apply Kd.S_drew)); exact HO156.out) hb); have n1_ := Aside0.mk (below_step (by repeat (first | (with_reducible first | exact HB.out | apply below_alloc | apply pw_below_drewN | apply below_drew1) | exact HB.out)) hb); clear HO156; clear HB; have HO156 := n0_; have HB := n1_; clear n0_ n1_; (try clear hb); (try clear hb2); (try clear hk); (try clear hi)) | (go_at_call 59; (with_reducible refine (spec_l1In.calls a3 1 2 true _ A20.out).mono ?_); rintro e w' ⟨rfl, ⟨nd, rfl⟩⟩) | (go_at_call 59; (with_reducible refine (spec_l1In.calls a4 0 1000 false _ A22.out).mono ?_); rintro e w' ⟨rfl, ⟨nd, rfl⟩⟩))
        go_meet
        case rel => exact ⟨_, (true), (by first | rfl | (simp; done) | (simp [*]; done)), H', ⟨by first | omega | exact Nat.le_refl _⟩, ⟨by (with_reducible repeat (first | apply Kd.S_alloc | apply Kd.S_drewN | apply Kd.S_drew)); exact HO156.out⟩, ⟨by repeat (first | (with_reducible first | exact HB.out | apply below_alloc | apply pw_below_drewN | apply below_drew1) | exact HB.out)⟩⟩
      ·
       replace c21 := Bool.eq_false_iff.mpr c21
       subst c21
       have H1 : (spec_AddResult.j0 k l0 a1 a2 a3 a4 a5 t154 t157 t158 true) = some (r1, r2) := by rw [if_neg (show ¬ (false = true) by decide)] at H; exact H
       clear H
       have H := H1
       clear H1
       have H' := Aside0.mk H
       clear H
       go_wp2_with (first | ((with_reducible refine gate_callee (f := 20) rfl ?_); refine goesL_ (some 26) rfl rfl Try.func20 (by kernel_rfl) rfl #[.slice A0 l0.length c0] rfl (by (try simp only [List.map_toArray, List.map_cons, List.map_nil]); first | done | rfl | (simp only [List.length_drop, List.length_take]; rfl)) ?_; (with_reducible refine (spec_AreTeams.calls k _ _ l0 true _ ?side1 ?side2 A12.out).mono ?_); (case side1 => repeat (first | exact (Kd.C_below HR0.out HB.out) | (with_reducible refine Kd.C_alloc ?_ _) | (with_reducible refine Kd.C_drewN ?_ _) | (with_reducible refine Kd.C_drew ?_))); (case side2 => exact HC0.out); rintro e w27 ⟨rfl, hb⟩; refine ⟨_, rfl, ?_⟩; have n0_ := Aside0.mk (Kd.S_below (by (with_reducible repeat (first | apply Kd.S_alloc | apply Kd.S_drewN | apply Kd.S_drew)); exact HO156.out) hb); have n1_ := Aside0.mk (below_step (by repeat (first | (with_reducible first | exact HB.out | apply below_alloc | apply pw_below_drewN | apply below_drew1) | exact HB.out)) hb); clear HO156; clear HB; have HO156 := n0_; have HB := n1_; clear n0_ n1_; (try clear hb); (try clear hb2); (try clear hk); (try clear hi)) | (go_at_call 59; (with_reducible refine (spec_l1In.calls a3 1 2 false _ A20.out).mono ?_); rintro e w' ⟨rfl, ⟨nd, rfl⟩⟩))
       go_meet
       case rel => exact ⟨_, (true), (by first | rfl | (simp; done) | (simp [*]; done)), H', ⟨by first | omega | exact Nat.le_refl _⟩, ⟨by (with_reducible repeat (first | apply Kd.S_alloc | apply Kd.S_drewN | apply Kd.S_drew)); exact HO156.out⟩, ⟨by repeat (first | (with_reducible first | exact HB.out | apply below_alloc | apply pw_below_drewN | apply below_drew1) | exact HB.out)⟩⟩
  ·
   replace c13 := Bool.eq_false_iff.mpr c13
   subst c13
   have H1 : (spec_AddResult.j0 k l0 a1 a2 a3 a4 a5 t154 t157 t158 true) = some (r1, r2) := by rw [if_neg (show ¬ (false = true) by decide)] at H; exact H
   clear H
   have H := H1
   clear H1
   have H' := Aside0.mk H
   clear H
   go_wp2_with (first | ((with_reducible refine gate_callee (f := 20) rfl ?_); refine goesL_ (some 26) rfl rfl Try.func20 (by kernel_rfl) rfl #[.slice A0 l0.length c0] rfl (by (try simp only [List.map_toArray, List.map_cons, List.map_nil]); first | done | rfl | (simp only [List.length_drop, List.length_take]; rfl)) ?_; (with_reducible refine (spec_AreTeams.calls k _ _ l0 false _ ?side1 ?side2 A12.out).mono ?_); (case side1 => repeat (first | exact (Kd.C_below HR0.out HB.out) | (with_reducible refine Kd.C_alloc ?_ _) | (with_reducible refine Kd.C_drewN ?_ _) | (with_reducible refine Kd.C_drew ?_))); (case side2 => exact HC0.out); rintro e w28 ⟨rfl, hb⟩; refine ⟨_, rfl, ?_⟩; have n0_ := Aside0.mk (Kd.S_below (by (with_reducible repeat (first | apply Kd.S_alloc | apply Kd.S_drewN | apply Kd.S_drew)); exact HO156.out) hb); have n1_ := Aside0.mk (below_step (by repeat (first | (with_reducible first | exact HB.out | apply below_alloc | apply pw_below_drewN | apply below_drew1) | exact HB.out)) hb); clear HO156; clear HB; have HO156 := n0_; have HB := n1_; clear n0_ n1_; (try clear hb); (try clear hb2); (try clear hk); (try clear hi)))
   go_meet
   case rel => exact ⟨_, (true), (by first | rfl | (simp; done) | (simp [*]; done)), H', ⟨by first | omega | exact Nat.le_refl _⟩, ⟨by (with_reducible repeat (first | apply Kd.S_alloc | apply Kd.S_drewN | apply Kd.S_drew)); exact HO156.out⟩, ⟨by repeat (first | (with_reducible first | exact HB.out | apply below_alloc | apply pw_below_drewN | apply below_drew1) | exact HB.out)⟩⟩
 case rest =>
  clear HC10
  try clear c1
  try clear c2
  try clear p2
  try clear c4
  try clear c7
  try clear c13
  try clear c14
  try clear c14b0
  try clear c16
  try clear c16b0
  try clear c18
  try clear c18b0
  try clear c18b1
  try clear c20
  try clear c21
  try clear c23
  obtain ⟨kq, x55_9, rfl, HA, HJ9, HO_14, HB⟩ := hcut
  cases kq with
  | zero => exact absurd HA.out (by simp [spec_AddResult.j0])
  | succ kj9 =>
   have H := HA.out
   clear HA
   simp only [spec_AddResult.j0] at H
   by_cases c29 : x55_9 = true
   ·
    subst c29
    have H1 : (some (t154, false)) = some (r1, r2) := by rw [if_pos rfl] at H; exact H
    clear H
    have H := H1
    clear H1
    simp only [Option.some.injEq, Prod.mk.injEq] at H
    obtain ⟨rfl, rfl⟩ := H
    go_wp2
    go_ret2
    exact ⟨_, by first | rfl | (simp [errW_none, errW_some] <;> rfl) | (simp [*, errW_none, errW_some] <;> rfl), by (with_reducible repeat (first | apply Kd.S_alloc | apply Kd.S_drewN | apply Kd.S_drew)); exact HO_14.out, by repeat (first | (with_reducible first | exact HB.out | apply below_alloc | apply pw_below_drewN | apply below_drew1) | exact HB.out)⟩
   ·
    replace c29 := Bool.eq_false_iff.mpr c29
    subst c29
    have H1 : (if 0 ≤ t157 then (if t157 < (t154.length : Int) then (if ((rd_T61 t154 t157).f5).length < 17592186044416 then ((some (t154.set (t157 : Int).toNat (⟨(rd_T61 t154 t157).f0, (rd_T61 t154 t157).f1, (rd_T61 t154 t157).f2, (rd_T61 t154 t157).f3, (rd_T61 t154 t157).f4, (((rd_T61 t154 t157).f5) ++ [a2])⟩ : S61) : List (S61))).bind fun y167 => (if 0 ≤ t158 then (if t158 < (t154.length : Int) then (if ((rd_T61 y167 t158).f5).length < 17592186044416 then ((some (y167.set (t158 : Int).toNat (⟨(rd_T61 y167 t158).f0, (rd_T61 y167 t158).f1, (rd_T61 y167 t158).f2, (rd_T61 y167 t158).f3, (rd_T61 y167 t158).f4, (((rd_T61 y167 t158).f5) ++ [a1])⟩ : S61) : List (S61))).bind fun y172 => ((some (y172.set (t157 : Int).toNat (⟨(rd_T61 y172 t157).f0, (rd_T61 y172 t157).f1, (rd_T61 y172 t157).f2, (rd_T61 y172 t157).f3, wrap64 (((rd_T61 y172 t157).f4) + 1), (rd_T61 y172 t157).f5⟩ : S61) : List (S61))).bind fun y174 => ((some (y174.set (t157 : Int).toNat (⟨(rd_T61 y174 t157).f0, (rd_T61 y174 t157).f1, (rd_T61 y174 t157).f2, wrap64 (((rd_T61 y174 t157).f3) + a4), (rd_T61 y174 t157).f4, (rd_T61 y174 t157).f5⟩ : S61) : List (S61))).bind fun y176 => ((some (y176.set (t158 : Int).toNat (⟨(rd_T61 y176 t158).f0, (rd_T61 y176 t158).f1, (rd_T61 y176 t158).f2, wrap64 (((rd_T61 y176 t158).f3) + a5), (rd_T61 y176 t158).f4, (rd_T61 y176 t158).f5⟩ : S61) : List (S61))).bind fun y178 => (if a3 = 1 then (spec_AddResult.j1 kj9 l0 (y178.set (t157 : Int).toNat (⟨(rd_T61 y178 t157).f0, (rd_T61 y178 t157).f1, wrap64 (((rd_T61 y178 t157).f2) + 1), (rd_T61 y178 t157).f3, (rd_T61 y178 t157).f4, (rd_T61 y178 t157).f5⟩ : S61))) else (spec_AddResult.j1 kj9 l0 (y178.set (t158 : Int).toNat (⟨(rd_T61 y178 t158).f0, (rd_T61 y178 t158).f1, wrap64 (((rd_T61 y178 t158).f2) + 1), (rd_T61 y178 t158).f3, (rd_T61 y178 t158).f4, (rd_T61 y178 t158).f5⟩ : S61)))))))) else (none)) else (none)) else (none))) else (none)) else (none)) else (none)) = some (r1, r2) := by rw [if_neg (show ¬ (false = true) by decide)] at H; exact H
    clear H
    have H := H1
    clear H1
    by_cases c30 : 0 ≤ t157
    ·
     rw [if_pos c30] at H
     have c30b0 : decide (0 ≤ t157) = true := decide_eq_true c30
     clear c30
     by_cases c31 : t157 < (t154.length : Int)
     ·
      rw [if_pos c31] at H
      have c31b0 : decide (t157 < (t154.length : Int)) = true := decide_eq_true c31
      clear c31
      by_cases c32 : ((rd_T61 t154 t157).f5).length < 17592186044416
      ·
       rw [if_pos c32] at H
       have LMc32 := Aside0.mk c32
       clear c32
       obtain ⟨y164, hy164⟩ : ∃ y_ : List Int, y_ = (((rd_T61 t154 t157).f5) ++ [a2]) := ⟨_, rfl⟩
       replace H : ((some (t154.set (t157 : Int).toNat (⟨(rd_T61 t154 t157).f0, (rd_T61 t154 t157).f1, (rd_T61 t154 t157).f2, (rd_T61 t154 t157).f3, (rd_T61 t154 t157).f4, y164⟩ : S61) : List (S61))).bind fun y167 => (if 0 ≤ t158 then (if t158 < (t154.length : Int) then (if ((rd_T61 y167 t158).f5).length < 17592186044416 then ((some (y167.set (t158 : Int).toNat (⟨(rd_T61 y167 t158).f0, (rd_T61 y167 t158).f1, (rd_T61 y167 t158).f2, (rd_T61 y167 t158).f3, (rd_T61 y167 t158).f4, (((rd_T61 y167 t158).f5) ++ [a1])⟩ : S61) : List (S61))).bind fun y172 => ((some (y172.set (t157 : Int).toNat (⟨(rd_T61 y172 t157).f0, (rd_T61 y172 t157).f1, (rd_T61 y172 t157).f2, (rd_T61 y172 t157).f3, wrap64 (((rd_T61 y172 t157).f4) + 1), (rd_T61 y172 t157).f5⟩ : S61) : List (S61))).bind fun y174 => ((some (y174.set (t157 : Int).toNat (⟨(rd_T61 y174 t157).f0, (rd_T61 y174 t157).f1, (rd_T61 y174 t157).f2, wrap64 (((rd_T61 y174 t157).f3) + a4), (rd_T61 y174 t157).f4, (rd_T61 y174 t157).f5⟩ : S61) : List (S61))).bind fun y176 => ((some (y176.set (t158 : Int).toNat (⟨(rd_T61 y176 t158).f0, (rd_T61 y176 t158).f1, (rd_T61 y176 t158).f2, wrap64 (((rd_T61 y176 t158).f3) + a5), (rd_T61 y176 t158).f4, (rd_T61 y176 t158).f5⟩ : S61) : List (S61))).bind fun y178 => (if a3 = 1 then (spec_AddResult.j1 kj9 l0 (y178.set (t157 : Int).toNat (⟨(rd_T61 y178 t157).f0, (rd_T61 y178 t157).f1, wrap64 (((rd_T61 y178 t157).f2) + 1), (rd_T61 y178 t157).f3, (rd_T61 y178 t157).f4, (rd_T61 y178 t157).f5⟩ : S61))) else (spec_AddResult.j1 kj9 l0 (y178.set (t158 : Int).toNat (⟨(rd_T61 y178 t158).f0, (rd_T61 y178 t158).f1, wrap64 (((rd_T61 y178 t158).f2) + 1), (rd_T61 y178 t158).f3, (rd_T61 y178 t158).f4, (rd_T61 y178 t158).f5⟩ : S61)))))))) else (none)) else (none)) else (none))) = some (r1, r2) := by first | (rw [hy164]; with_reducible exact H) | (have H2_ := (Option.bind_some _ _).symm.trans H; rw [hy164]; with_reducible exact H2_) | (have H2_ := (Option.bind_some _ _).symm.trans H; with_reducible exact H2_) | with_reducible exact H | (rw [hy164]; exact H) | exact H
       have Ny164 := Aside0.mk hy164
       clear hy164
       obtain ⟨y167, hy167⟩ : ∃ y_ : List (S61), y_ = (t154.set (t157 : Int).toNat (⟨(rd_T61 t154 t157).f0, (rd_T61 t154 t157).f1, (rd_T61 t154 t157).f2, (rd_T61 t154 t157).f3, (rd_T61 t154 t157).f4, y164⟩ : S61)) := ⟨_, rfl⟩
       replace H : (if 0 ≤ t158 then (if t158 < (t154.length : Int) then (if ((rd_T61 y167 t158).f5).length < 17592186044416 then ((some (y167.set (t158 : Int).toNat (⟨(rd_T61 y167 t158).f0, (rd_T61 y167 t158).f1, (rd_T61 y167 t158).f2, (rd_T61 y167 t158).f3, (rd_T61 y167 t158).f4, (((rd_T61 y167 t158).f5) ++ [a1])⟩ : S61) : List (S61))).bind fun y172 => ((some (y172.set (t157 : Int).toNat (⟨(rd_T61 y172 t157).f0, (rd_T61 y172 t157).f1, (rd_T61 y172 t157).f2, (rd_T61 y172 t157).f3, wrap64 (((rd_T61 y172 t157).f4) + 1), (rd_T61 y172 t157).f5⟩ : S61) : List (S61))).bind fun y174 => ((some (y174.set (t157 : Int).toNat (⟨(rd_T61 y174 t157).f0, (rd_T61 y174 t157).f1, (rd_T61 y174 t157).f2, wrap64 (((rd_T61 y174 t157).f3) + a4), (rd_T61 y174 t157).f4, (rd_T61 y174 t157).f5⟩ : S61) : List (S61))).bind fun y176 => ((some (y176.set (t158 : Int).toNat (⟨(rd_T61 y176 t158).f0, (rd_T61 y176 t158).f1, (rd_T61 y176 t158).f2, wrap64 (((rd_T61 y176 t158).f3) + a5), (rd_T61 y176 t158).f4, (rd_T61 y176 t158).f5⟩ : S61) : List (S61))).bind fun y178 => (if a3 = 1 then (spec_AddResult.j1 kj9 l0 (y178.set (t157 : Int).toNat (⟨(rd_T61 y178 t157).f0, (rd_T61 y178 t157).f1, wrap64 (((rd_T61 y178 t157).f2) + 1), (rd_T61 y178 t157).f3, (rd_T61 y178 t157).f4, (rd_T61 y178 t157).f5⟩ : S61))) else (spec_AddResult.j1 kj9 l0 (y178.set (t158 : Int).toNat (⟨(rd_T61 y178 t158).f0, (rd_T61 y178 t158).f1, wrap64 (((rd_T61 y178 t158).f2) + 1), (rd_T61 y178 t158).f3, (rd_T61 y178 t158).f4, (rd_T61 y178 t158).f5⟩ : S61)))))))) else (none)) else (none)) else (none)) = some (r1, r2) := by first | (rw [hy167]; with_reducible exact H) | (have H2_ := (Option.bind_some _ _).symm.trans H; rw [hy167]; with_reducible exact H2_) | (have H2_ := (Option.bind_some _ _).symm.trans H; with_reducible exact H2_) | with_reducible exact H | (rw [hy167]; exact H) | exact H
       have Ny167 := Aside0.mk hy167
       clear hy167
       by_cases c34 : 0 ≤ t158
       ·
        rw [if_pos c34] at H
        have c34b0 : decide (0 ≤ t158) = true := decide_eq_true c34
        clear c34
        by_cases c35 : t158 < (t154.length : Int)
        ·
         rw [if_pos c35] at H
         have c35b0 : decide (t158 < (t154.length : Int)) = true := decide_eq_true c35
         clear c35
         by_cases c36 : ((rd_T61 y167 t158).f5).length < 17592186044416
         ·
          rw [if_pos c36] at H
          have LMc36 := Aside0.mk c36
          clear c36
          obtain ⟨y169, hy169⟩ : ∃ y_ : List Int, y_ = (((rd_T61 y167 t158).f5) ++ [a1]) := ⟨_, rfl⟩
          replace H : ((some (y167.set (t158 : Int).toNat (⟨(rd_T61 y167 t158).f0, (rd_T61 y167 t158).f1, (rd_T61 y167 t158).f2, (rd_T61 y167 t158).f3, (rd_T61 y167 t158).f4, y169⟩ : S61) : List (S61))).bind fun y172 => ((some (y172.set (t157 : Int).toNat (⟨(rd_T61 y172 t157).f0, (rd_T61 y172 t157).f1, (rd_T61 y172 t157).f2, (rd_T61 y172 t157).f3, wrap64 (((rd_T61 y172 t157).f4) + 1), (rd_T61 y172 t157).f5⟩ : S61) : List (S61))).bind fun y174 => ((some (y174.set (t157 : Int).toNat (⟨(rd_T61 y174 t157).f0, (rd_T61 y174 t157).f1, (rd_T61 y174 t157).f2, wrap64 (((rd_T61 y174 t157).f3) + a4), (rd_T61 y174 t157).f4, (rd_T61 y174 t157).f5⟩ : S61) : List (S61))).bind fun y176 => ((some (y176.set (t158 : Int).toNat (⟨(rd_T61 y176 t158).f0, (rd_T61 y176 t158).f1, (rd_T61 y176 t158).f2, wrap64 (((rd_T61 y176 t158).f3) + a5), (rd_T61 y176 t158).f4, (rd_T61 y176 t158).f5⟩ : S61) : List (S61))).bind fun y178 => (if a3 = 1 then (spec_AddResult.j1 kj9 l0 (y178.set (t157 : Int).toNat (⟨(rd_T61 y178 t157).f0, (rd_T61 y178 t157).f1, wrap64 (((rd_T61 y178 t157).f2) + 1), (rd_T61 y178 t157).f3, (rd_T61 y178 t157).f4, (rd_T61 y178 t157).f5⟩ : S61))) else (spec_AddResult.j1 kj9 l0 (y178.set (t158 : Int).toNat (⟨(rd_T61 y178 t158).f0, (rd_T61 y178 t158).f1, wrap64 (((rd_T61 y178 t158).f2) + 1), (rd_T61 y178 t158).f3, (rd_T61 y178 t158).f4, (rd_T61 y178 t158).f5⟩ : S61)))))))) = some (r1, r2) := by first | (rw [hy169]; with_reducible exact H) | (have H2_ := (Option.bind_some _ _).symm.trans H; rw [hy169]; with_reducible exact H2_) | (have H2_ := (Option.bind_some _ _).symm.trans H; with_reducible exact H2_) | with_reducible exact H | (rw [hy169]; exact H) | exact H
          have Ny169 := Aside0.mk hy169
          clear hy169
          obtain ⟨y172, hy172⟩ : ∃ y_ : List (S61), y_ = (y167.set (t158 : Int).toNat (⟨(rd_T61 y167 t158).f0, (rd_T61 y167 t158).f1, (rd_T61 y167 t158).f2, (rd_T61 y167 t158).f3, (rd_T61 y167 t158).f4, y169⟩ : S61)) := ⟨_, rfl⟩
          replace H : ((some (y172.set (t157 : Int).toNat (⟨(rd_T61 y172 t157).f0, (rd_T61 y172 t157).f1, (rd_T61 y172 t157).f2, (rd_T61 y172 t157).f3, wrap64 (((rd_T61 y172 t157).f4) + 1), (rd_T61 y172 t157).f5⟩ : S61) : List (S61))).bind fun y174 => ((some (y174.set (t157 : Int).toNat (⟨(rd_T61 y174 t157).f0, (rd_T61 y174 t157).f1, (rd_T61 y174 t157).f2, wrap64 (((rd_T61 y174 t157).f3) + a4), (rd_T61 y174 t157).f4, (rd_T61 y174 t157).f5⟩ : S61) : List (S61))).bind fun y176 => ((some (y176.set (t158 : Int).toNat (⟨(rd_T61 y176 t158).f0, (rd_T61 y176 t158).f1, (rd_T61 y176 t158).f2, wrap64 (((rd_T61 y176 t158).f3) + a5), (rd_T61 y176 t158).f4, (rd_T61 y176 t158).f5⟩ : S61) : List (S61))).bind fun y178 => (if a3 = 1 then (spec_AddResult.j1 kj9 l0 (y178.set (t157 : Int).toNat (⟨(rd_T61 y178 t157).f0, (rd_T61 y178 t157).f1, wrap64 (((rd_T61 y178 t157).f2) + 1), (rd_T61 y178 t157).f3, (rd_T61 y178 t157).f4, (rd_T61 y178 t157).f5⟩ : S61))) else (spec_AddResult.j1 kj9 l0 (y178.set (t158 : Int).toNat (⟨(rd_T61 y178 t158).f0, (rd_T61 y178 t158).f1, wrap64 (((rd_T61 y178 t158).f2) + 1), (rd_T61 y178 t158).f3, (rd_T61 y178 t158).f4, (rd_T61 y178 t158).f5⟩ : S61))))))) = some (r1, r2) := by first | (rw [hy172]; with_reducible exact H) | (have H2_ := (Option.bind_some _ _).symm.trans H; rw [hy172]; with_reducible exact H2_) | (have H2_ := (Option.bind_some _ _).symm.trans H; with_reducible exact H2_) | with_reducible exact H | (rw [hy172]; exact H) | exact H
          have Ny172 := Aside0.mk hy172
          clear hy172
          obtain ⟨y174, hy174⟩ : ∃ y_ : List (S61), y_ = (y172.set (t157 : Int).toNat (⟨(rd_T61 y172 t157).f0, (rd_T61 y172 t157).f1, (rd_T61 y172 t157).f2, (rd_T61 y172 t157).f3, wrap64 (((rd_T61 y172 t157).f4) + 1), (rd_T61 y172 t157).f5⟩ : S61)) := ⟨_, rfl⟩
          replace H : ((some (y174.set (t157 : Int).toNat (⟨(rd_T61 y174 t157).f0, (rd_T61 y174 t157).f1, (rd_T61 y174 t157).f2, wrap64 (((rd_T61 y174 t157).f3) + a4), (rd_T61 y174 t157).f4, (rd_T61 y174 t157).f5⟩ : S61) : List (S61))).bind fun y176 => ((some (y176.set (t158 : Int).toNat (⟨(rd_T61 y176 t158).f0, (rd_T61 y176 t158).f1, (rd_T61 y176 t158).f2, wrap64 (((rd_T61 y176 t158).f3) + a5), (rd_T61 y176 t158).f4, (rd_T61 y176 t158).f5⟩ : S61) : List (S61))).bind fun y178 => (if a3 = 1 then (spec_AddResult.j1 kj9 l0 (y178.set (t157 : Int).toNat (⟨(rd_T61 y178 t157).f0, (rd_T61 y178 t157).f1, wrap64 (((rd_T61 y178 t157).f2) + 1), (rd_T61 y178 t157).f3, (rd_T61 y178 t157).f4, (rd_T61 y178 t157).f5⟩ : S61))) else (spec_AddResult.j1 kj9 l0 (y178.set (t158 : Int).toNat (⟨(rd_T61 y178 t158).f0, (rd_T61 y178 t158).f1, wrap64 (((rd_T61 y178 t158).f2) + 1), (rd_T61 y178 t158).f3, (rd_T61 y178 t158).f4, (rd_T61 y178 t158).f5⟩ : S61)))))) = some (r1, r2) := by first | (rw [hy174]; with_reducible exact H) | (have H2_ := (Option.bind_some _ _).symm.trans H; rw [hy174]; with_reducible exact H2_) | (have H2_ := (Option.bind_some _ _).symm.trans H; with_reducible exact H2_) | with_reducible exact H | (rw [hy174]; exact H) | exact H
          have Ny174 := Aside0.mk hy174
          clear hy174
          obtain ⟨y176, hy176⟩ : ∃ y_ : List (S61), y_ = (y174.set (t157 : Int).toNat (⟨(rd_T61 y174 t157).f0, (rd_T61 y174 t157).f1, (rd_T61 y174 t157).f2, wrap64 (((rd_T61 y174 t157).f3) + a4), (rd_T61 y174 t157).f4, (rd_T61 y174 t157).f5⟩ : S61)) := ⟨_, rfl⟩
          replace H : ((some (y176.set (t158 : Int).toNat (⟨(rd_T61 y176 t158).f0, (rd_T61 y176 t158).f1, (rd_T61 y176 t158).f2, wrap64 (((rd_T61 y176 t158).f3) + a5), (rd_T61 y176 t158).f4, (rd_T61 y176 t158).f5⟩ : S61) : List (S61))).bind fun y178 => (if a3 = 1 then (spec_AddResult.j1 kj9 l0 (y178.set (t157 : Int).toNat (⟨(rd_T61 y178 t157).f0, (rd_T61 y178 t157).f1, wrap64 (((rd_T61 y178 t157).f2) + 1), (rd_T61 y178 t157).f3, (rd_T61 y178 t157).f4, (rd_T61 y178 t157).f5⟩ : S61))) else (spec_AddResult.j1 kj9 l0 (y178.set (t158 : Int).toNat (⟨(rd_T61 y178 t158).f0, (rd_T61 y178 t158).f1, wrap64 (((rd_T61 y178 t158).f2) + 1), (rd_T61 y178 t158).f3, (rd_T61 y178 t158).f4, (rd_T61 y178 t158).f5⟩ : S61))))) = some (r1, r2) := by first | (rw [hy176]; with_reducible exact H) | (have H2_ := (Option.bind_some _ _).symm.trans H; rw [hy176]; with_reducible exact H2_) | (have H2_ := (Option.bind_some _ _).symm.trans H; with_reducible exact H2_) | with_reducible exact H | (rw [hy176]; exact H) | exact H
          have Ny176 := Aside0.mk hy176
          clear hy176
          obtain ⟨y178, hy178⟩ : ∃ y_ : List (S61), y_ = (y176.set (t158 : Int).toNat (⟨(rd_T61 y176 t158).f0, (rd_T61 y176 t158).f1, (rd_T61 y176 t158).f2, wrap64 (((rd_T61 y176 t158).f3) + a5), (rd_T61 y176 t158).f4, (rd_T61 y176 t158).f5⟩ : S61)) := ⟨_, rfl⟩
          replace H : (if a3 = 1 then (spec_AddResult.j1 kj9 l0 (y178.set (t157 : Int).toNat (⟨(rd_T61 y178 t157).f0, (rd_T61 y178 t157).f1, wrap64 (((rd_T61 y178 t157).f2) + 1), (rd_T61 y178 t157).f3, (rd_T61 y178 t157).f4, (rd_T61 y178 t157).f5⟩ : S61))) else (spec_AddResult.j1 kj9 l0 (y178.set (t158 : Int).toNat (⟨(rd_T61 y178 t158).f0, (rd_T61 y178 t158).f1, wrap64 (((rd_T61 y178 t158).f2) + 1), (rd_T61 y178 t158).f3, (rd_T61 y178 t158).f4, (rd_T61 y178 t158).f5⟩ : S61)))) = some (r1, r2) := by first | (rw [hy178]; with_reducible exact H) | (have H2_ := (Option.bind_some _ _).symm.trans H; rw [hy178]; with_reducible exact H2_) | (have H2_ := (Option.bind_some _ _).symm.trans H; with_reducible exact H2_) | with_reducible exact H | (rw [hy178]; exact H) | exact H
          have Ny178 := Aside0.mk hy178
          clear hy178
          have HC41 := Aside0.mk H
          clear H
          obtain ⟨Ao42, co42, eo42⟩ := Kd.S_slice HO_14.out
          subst eo42
          have p163 : 0 ≤ (t157 : Int) := of_decide_eq_true (by first | (with_reducible assumption) | assumption)
          have q163 : t157 < (t154.length : Int) := of_decide_eq_true (by first | (with_reducible assumption) | assumption)
          obtain ⟨ad163, A163_5, c163_5, e163, hx163_0, hx163_1, hx163_2, hx163_3, hx163_4, hx163_5, hl163_5, hi163_5⟩ := at_T61 (Kd.S_reads' HO_14.out).2.2 t157 p163 q163
          cases e163
          obtain ⟨ce163, hce163, hMe163, hcc163⟩ := Kd.S_get HO_14.out z61 t157 p163 (by first | exact q163 | exact of_decide_eq_true (by first | (with_reducible assumption) | assumption) | (have e_ := (Kd.S_reads' HO_14.out).1; omega))
          obtain ⟨ve163_5, rfl, ge163_5⟩ := k61_openM hMe163
          have hv163_5 := hcc163 5 _ rfl
          rw [add_field _ _ 5 (by omega)] at hv163_5
          replace hv163_5 := Option.some.inj (hv163_5.symm.trans hx163_5)
          rw [hv163_5] at ge163_5
          have HL163_5 := Aside0.mk (show Kd.R (Kd.int .i64) 3 _ _ _ _ ((rd_T61 t154 t157).f5) from ge163_5)
          clear hv163_5 ge163_5
          have HX163_5 := Aside0.mk hx163_5
          clear hcc163 hce163
          have HR163_5 := Aside0.mk hi163_5
          have HC163_5 := Aside0.mk hl163_5
          clear hi163_5 hl163_5
          replace p163 := eq_true p163
          replace q163 := eq_true q163
          obtain ⟨go43, co43, eo43, gb43, gl43, cl43, HG43⟩ := Kd.S_form HO_14.out (by have h_ : (t157 : Int) < ((t154.length : Int) : Int) := of_decide_eq_true (by first | (with_reducible assumption) | assumption); have h2_ : 0 ≤ (t157 : Int) := (of_decide_eq_true (by first | (with_reducible assumption) | assumption)); omega)
          (first | cases eo43 | (injection eo43 with ea_ en_ ec_; (first | subst ea_ | (injection ea_ with ea_; subst ea_)); subst ec_; clear en_))
          have GB43 := Aside0.mk gb43
          have GG43 := Aside0.mk HG43
          clear gb43 gl43 HG43
          (first | simp only [add_plain] at hx163_0 | skip)
          (first | simp only [add_plain] at hx163_1 | skip)
          (first | simp only [add_plain] at hx163_2 | skip)
          (first | simp only [add_plain] at hx163_3 | skip)
          (first | simp only [add_plain] at hx163_4 | skip)
          (first | simp only [add_plain] at hx163_5 | skip)
          obtain ⟨oki43, ce43, hcl43, hM43, hcc43, _, _, hH43⟩ := Kd.S_elem HO_14.out z61 (t157 : Int) (of_decide_eq_true (by first | (with_reducible assumption) | assumption)) (by have h_ : (t157 : Int) < ((t154.length : Int) : Int) := of_decide_eq_true (by first | (with_reducible assumption) | assumption); first | exact h_ | (have e_ := (Kd.S_reads' HO_14.out).1; omega) | simpa using h_)
          obtain ⟨ve43_5, rfl, ge43_5⟩ := k61_openM hM43
          have hv43 := hcc43 5 _ rfl
          have hX43 := HX163_5.out
          (try simp only [add_plain] at hX43)
          (try simp only [Nat.add_zero] at hv43)
          replace hv43 := Option.some.inj (hv43.symm.trans hX43)
          subst hv43
          clear hX43 hcc43 hcl43
          have UU43 := Aside0.mk (show Kd.R (Kd.int .i64) 3 _ w.heap.size oki43 (.slice A163_5 ((rd_T61 t154 t157).f5).length c163_5) ((rd_T61 t154 t157).f5) from ge43_5)
          have HH43 := Aside0.mk hH43
          have HN43 := Aside0.mk (Kd.S_reads' HO_14.out).1
          clear hH43 ge43_5
          go_upto_if 114 with (first | ((with_reducible refine gate_builtin (b := .append) (xs := #[.tmp 63, .tmp 65]) rfl ?_); at_builtin; refine Kd.R_append (Kd.int .i64) (w0 := w) w.heap.size rfl (.tmp 63) (.tmp 65) 41 3 (.int .i64 0) 8 rfl Try.underlying41 info3 rfl (by decide) (by omega) (.slice A163_5 ((rd_T61 t154 t157).f5).length c163_5) ((rd_T61 t154 t157).f5) a2 [.int .i64 a2] (fun k_ => oki43 k_ ∨ ((fun _ => True)) k_ ∧ wc.heap.size ≤ k_) (fun _ => False) rfl rfl ?aP (fun _ hk => hk.elim) ?aF ?aO ?aB ?aS ?aL ?_; (case aP => exact rfl); (case aB => exact (by repeat (first | (with_reducible first | exact HB.out | apply below_alloc | apply pw_below_drewN | apply below_drew1) | exact HB.out))); (case aF => exact (fun k_ hk => .inr ⟨trivial, hk⟩)); (case aO => exact (by (with_reducible repeat (first | apply Kd.R_alloc | apply Kd.R_drewN | apply Kd.R_drew)); exact Kd.R_mono UU43.out (fun _ hk => .inl hk))); (case aS => exact (below_size (by repeat (first | (with_reducible first | exact HB.out | apply below_alloc | apply pw_below_drewN | apply below_drew1) | exact HB.out)))); (case aL => have := LMc32.out; omega); intro v165 w44 ho hb hg hat; rw [← Ny164.out] at ho; have n0_ := Aside0.mk (hb); have n1_ := Aside0.mk (Kd.H_grown (Kd.H_widen (by repeat (first | exact HH43.out | refine Kd.H_alloc ?_ _ | refine Kd.H_drewN ?_ _ | refine Kd.H_drew ?_))) hg (fun k_ e_ => .inl (UU43.out.1 k_ e_))); have n2_ := Aside0.mk (ho); clear HB; clear HH43; clear HO_14; clear UU43; clear HL163_5; have HB := n0_; have HH43 := n1_; have HO166 := n2_; clear n0_ n1_ n2_; clear ho hb hg hat; have p33 : 0 ≤ (t157 : Int) := of_decide_eq_true (by first | (with_reducible assumption) | assumption); have q33 : (t157 : Int) < ((t154.length : Int) : Int) := of_decide_eq_true (by first | (with_reducible assumption) | assumption); replace p33 := eq_true p33; replace q33 := eq_true q33; obtain ⟨Ao47, co47, eo47⟩ := Kd.R_slice HO166.out; subst eo47; obtain ⟨_, _, hraw45, _, _, hcc45, _⟩ := Kd.H_raw HH43.out (of_decide_eq_true (by first | (with_reducible assumption) | assumption)) (by have h_ : (t157 : Int) < ((t154.length : Int) : Int) := of_decide_eq_true (by first | (with_reducible assumption) | assumption); first | exact h_ | (have e_ := (HN43.out); omega) | simpa using h_); obtain ⟨_, hfr45⟩ := Kd.H_at HH43.out (of_decide_eq_true (by first | (with_reducible assumption) | assumption)) (by have h_ : (t157 : Int) < ((t154.length : Int) : Int) := of_decide_eq_true (by first | (with_reducible assumption) | assumption); first | exact h_ | (have e_ := (HN43.out); omega) | simpa using h_); have hx45_0 := hcc45 5 _ rfl; have hf45_0 := hfr45 5; (try rw [show (k61).sz = 6 from rfl] at hx45_0); (try rw [show (k61).sz = 6 from rfl] at hf45_0); have HP45 := Kd.S_seg0 HH43.out (of_decide_eq_true (by first | (with_reducible assumption) | assumption)) (by have h_ : (t157 : Int) < ((t154.length : Int) : Int) := of_decide_eq_true (by first | (with_reducible assumption) | assumption); first | exact h_ | (have e_ := (HN43.out); omega) | simpa using h_) (seg := [.slice Ao47 y164.length co47]) (j := 5) (show 6 ≤ 6 from by decide) (x' := (⟨(rd_T61 t154 t157).f0, (rd_T61 t154 t157).f1, (rd_T61 t154 t157).f2, (rd_T61 t154 t157).f3, (rd_T61 t154 t157).f4, y164⟩ : S61)) (k61_mkM _ _ _ (⟨(rd_T61 t154 t157).f0, (rd_T61 t154 t157).f1, (rd_T61 t154 t157).f2, (rd_T61 t154 t157).f3, (rd_T61 t154 t157).f4, y164⟩ : S61) HO166.out) (fun _ hk => hk); clear hcc45 hfr45) | ((with_reducible refine gate_store (t := 41) (p := 68) rfl ?_); refine store_event (t := 41) (p := 68) (v := ?vo_w46) (w1 := (w44.setCell ⟨go43, (t157 : Int).toNat * 6 + 5, none⟩ (.slice Ao47 y164.length co47))) ?hg ?ho ?hn ?hr ?_; (case ho => rfl); (case hg => rfl); (case hn => rfl); (case hr => first | (go_simp; done) | (go_simp; rfl)); intro w46 hw; have hg : w44.grownBy w46 (some go43) := (by rw [hw]; exact HP45.2); have hp_ : Kd.S k61 61 w46 w.heap.size (fun _ => True) (.slice (some ⟨go43, 0, none⟩) t154.length co42) y167 := (by rw [hw, Ny167.out]; exact HP45.1); clear HP45; have n0_ := Aside0.mk ((by rw [hw]; exact below_set HB.out GB43.out : Below w.heap.size w w46)); have n1_ := Aside0.mk (hp_); clear HB; clear HO166; clear HH43; have HB := n0_; have HO_14 := n1_; clear n0_ n1_; clear hg hw hp_ hraw45; have p168 : 0 ≤ (t158 : Int) := of_decide_eq_true (by first | (with_reducible assumption) | assumption); have q168 : t158 < (y167.length : Int) := (by have h_ : (t158 : Int) < ((t154.length : Int) : Int) := of_decide_eq_true (by first | (with_reducible assumption) | assumption); first | (have e_ := (Kd.S_reads' HO_14.out).1; omega) | simpa only [Ny167.out, List.length_set] using h_); have ql168 : ((t158 : Int) < ((t154.length : Int) : Int)) = True := eq_true (of_decide_eq_true (by first | (with_reducible assumption) | assumption)); obtain ⟨ad168, A168_5, c168_5, e168, hx168_0, hx168_1, hx168_2, hx168_3, hx168_4, hx168_5, hl168_5, hi168_5⟩ := at_T61 (Kd.S_reads' HO_14.out).2.2 t158 p168 q168; obtain rfl : (⟨go43, 0, none⟩ : Addr) = ad168 := (by injection e168); obtain ⟨ce168, hce168, hMe168, hcc168⟩ := Kd.S_get HO_14.out z61 t158 p168 (by first | exact q168 | exact of_decide_eq_true (by first | (with_reducible assumption) | assumption) | (have e_ := (Kd.S_reads' HO_14.out).1; omega)); obtain ⟨ve168_5, rfl, ge168_5⟩ := k61_openM hMe168; have hv168_5 := hcc168 5 _ rfl; rw [add_field _ _ 5 (by omega)] at hv168_5; replace hv168_5 := Option.some.inj (hv168_5.symm.trans hx168_5); rw [hv168_5] at ge168_5; have HL168_5 := Aside0.mk (show Kd.R (Kd.int .i64) 3 _ _ _ _ ((rd_T61 y167 t158).f5) from ge168_5); clear hv168_5 ge168_5; have HX168_5 := Aside0.mk hx168_5; clear hcc168 hce168; (first | simp only [add_plain] at hx168_0 | simp only [add_at] at hx168_0 | simp only [Addr.add, Nat.zero_add] at hx168_0 | skip); (first | simp only [add_plain] at hx168_1 | simp only [add_at] at hx168_1 | simp only [Addr.add, Nat.zero_add] at hx168_1 | skip); (first | simp only [add_plain] at hx168_2 | simp only [add_at] at hx168_2 | simp only [Addr.add, Nat.zero_add] at hx168_2 | skip); (first | simp only [add_plain] at hx168_3 | simp only [add_at] at hx168_3 | simp only [Addr.add, Nat.zero_add] at hx168_3 | skip); (first | simp only [add_plain] at hx168_4 | simp only [add_at] at hx168_4 | simp only [Addr.add, Nat.zero_add] at hx168_4 | skip); (first | simp only [add_plain] at hx168_5 | simp only [add_at] at hx168_5 | simp only [Addr.add, Nat.zero_add] at hx168_5 | skip); have HR168_5 := Aside0.mk hi168_5; have HC168_5 := Aside0.mk hl168_5; clear hi168_5 hl168_5; replace p168 := eq_true p168; replace q168 := eq_true q168; obtain ⟨oki48, ce48, hcl48, hM48, hcc48, _, _, hH48⟩ := Kd.S_elem HO_14.out z61 (t158 : Int) (of_decide_eq_true (by first | (with_reducible assumption) | assumption)) (by have h_ : (t158 : Int) < ((t154.length : Int) : Int) := of_decide_eq_true (by first | (with_reducible assumption) | assumption); first | exact h_ | (have e_ := (Kd.S_reads' HO_14.out).1; omega) | simpa using h_); obtain ⟨ve48_5, rfl, ge48_5⟩ := k61_openM hM48; have hv48 := hcc48 5 _ rfl; have hX48 := HX168_5.out; (try simp only [add_plain] at hX48); (try simp only [Nat.add_zero] at hv48); replace hv48 := Option.some.inj (hv48.symm.trans hX48); subst hv48; clear hX48 hcc48 hcl48; have UU48 := Aside0.mk (show Kd.R (Kd.int .i64) 3 _ w.heap.size oki48 (.slice A168_5 ((rd_T61 y167 t158).f5).length c168_5) ((rd_T61 y167 t158).f5) from ge48_5); have HH48 := Aside0.mk hH48; have HN48 := Aside0.mk (Kd.S_reads' HO_14.out).1; clear hH48 ge48_5) | ((with_reducible refine gate_builtin (b := .append) (xs := #[.tmp 75, .tmp 77]) rfl ?_); at_builtin; refine Kd.R_append (Kd.int .i64) (w0 := w) w.heap.size rfl (.tmp 75) (.tmp 77) 41 3 (.int .i64 0) 8 rfl Try.underlying41 info3 rfl (by decide) (by omega) (.slice A168_5 ((rd_T61 y167 t158).f5).length c168_5) ((rd_T61 y167 t158).f5) a1 [.int .i64 a1] (fun k_ => oki48 k_ ∨ ((fun _ => True)) k_ ∧ w46.heap.size ≤ k_) (fun _ => False) rfl rfl ?aP (fun _ hk => hk.elim) ?aF ?aO ?aB ?aS ?aL ?_; (case aP => exact rfl); (case aB => exact (by repeat (first | (with_reducible first | exact HB.out | apply below_alloc | apply pw_below_drewN | apply below_drew1) | exact HB.out))); (case aF => exact (fun k_ hk => .inr ⟨trivial, hk⟩)); (case aO => exact (by (with_reducible repeat (first | apply Kd.R_alloc | apply Kd.R_drewN | apply Kd.R_drew)); exact Kd.R_mono UU48.out (fun _ hk => .inl hk))); (case aS => exact (below_size (by repeat (first | (with_reducible first | exact HB.out | apply below_alloc | apply pw_below_drewN | apply below_drew1) | exact HB.out)))); (case aL => have := LMc36.out; omega); intro v170 w49 ho hb hg hat; rw [← Ny169.out] at ho; have n0_ := Aside0.mk (hb); have n1_ := Aside0.mk (Kd.H_grown (Kd.H_widen (by repeat (first | exact HH48.out | refine Kd.H_alloc ?_ _ | refine Kd.H_drewN ?_ _ | refine Kd.H_drew ?_))) hg (fun k_ e_ => .inl (UU48.out.1 k_ e_))); have n2_ := Aside0.mk (ho); clear HB; clear HH48; clear HO_14; clear UU48; clear HL168_5; have HB := n0_; have HH48 := n1_; have HO171 := n2_; clear n0_ n1_ n2_; clear ho hb hg hat; have p37 : 0 ≤ (t158 : Int) := of_decide_eq_true (by first | (with_reducible assumption) | assumption); have q37 : (t158 : Int) < ((t154.length : Int) : Int) := of_decide_eq_true (by first | (with_reducible assumption) | assumption); replace p37 := eq_true p37; replace q37 := eq_true q37; obtain ⟨Ao52, co52, eo52⟩ := Kd.R_slice HO171.out; subst eo52; obtain ⟨_, _, hraw50, _, _, hcc50, _⟩ := Kd.H_raw HH48.out (of_decide_eq_true (by first | (with_reducible assumption) | assumption)) (by have h_ : (t158 : Int) < ((t154.length : Int) : Int) := of_decide_eq_true (by first | (with_reducible assumption) | assumption); first | exact h_ | (have e_ := (HN48.out); omega) | simpa using h_); obtain ⟨_, hfr50⟩ := Kd.H_at HH48.out (of_decide_eq_true (by first | (with_reducible assumption) | assumption)) (by have h_ : (t158 : Int) < ((t154.length : Int) : Int) := of_decide_eq_true (by first | (with_reducible assumption) | assumption); first | exact h_ | (have e_ := (HN48.out); omega) | simpa using h_); have hx50_0 := hcc50 5 _ rfl; have hf50_0 := hfr50 5; (try rw [show (k61).sz = 6 from rfl] at hx50_0); (try rw [show (k61).sz = 6 from rfl] at hf50_0); have HP50 := Kd.S_seg0 HH48.out (of_decide_eq_true (by first | (with_reducible assumption) | assumption)) (by have h_ : (t158 : Int) < ((t154.length : Int) : Int) := of_decide_eq_true (by first | (with_reducible assumption) | assumption); first | exact h_ | (have e_ := (HN48.out); omega) | simpa using h_) (seg := [.slice Ao52 y169.length co52]) (j := 5) (show 6 ≤ 6 from by decide) (x' := (⟨(rd_T61 y167 t158).f0, (rd_T61 y167 t158).f1, (rd_T61 y167 t158).f2, (rd_T61 y167 t158).f3, (rd_T61 y167 t158).f4, y169⟩ : S61)) (k61_mkM _ _ _ (⟨(rd_T61 y167 t158).f0, (rd_T61 y167 t158).f1, (rd_T61 y167 t158).f2, (rd_T61 y167 t158).f3, (rd_T61 y167 t158).f4, y169⟩ : S61) HO171.out) (fun _ hk => hk); clear hcc50 hfr50) | ((with_reducible refine gate_store (t := 41) (p := 80) rfl ?_); refine store_event (t := 41) (p := 80) (v := ?vo_w51) (w1 := (w49.setCell ⟨go43, (t158 : Int).toNat * 6 + 5, none⟩ (.slice Ao52 y169.length co52))) ?hg ?ho ?hn ?hr ?_; (case ho => rfl); (case hg => rfl); (case hn => rfl); (case hr => first | (go_simp; done) | (go_simp; rfl)); intro w51 hw; have hg : w49.grownBy w51 (some go43) := (by rw [hw]; exact HP50.2); have hp_ : Kd.S k61 61 w51 w.heap.size (fun _ => True) (.slice (some ⟨go43, 0, none⟩) t154.length co42) y172 := (by rw [hw, Ny172.out]; exact HP50.1); clear HP50; have n0_ := Aside0.mk ((by rw [hw]; exact below_set HB.out GB43.out : Below w.heap.size w w51)); have n1_ := Aside0.mk (hp_); clear HB; clear HO171; clear HH48; have HB := n0_; have HO_14 := n1_; clear n0_ n1_; clear hg hw hp_ hraw50; have p173 : 0 ≤ (t157 : Int) := of_decide_eq_true (by first | (with_reducible assumption) | assumption); have q173 : t157 < (y172.length : Int) := (by have h_ : (t157 : Int) < ((t154.length : Int) : Int) := of_decide_eq_true (by first | (with_reducible assumption) | assumption); first | (have e_ := (Kd.S_reads' HO_14.out).1; omega) | simpa only [Ny167.out, Ny172.out, List.length_set] using h_); have ql173 : ((t157 : Int) < ((t154.length : Int) : Int)) = True := eq_true (of_decide_eq_true (by first | (with_reducible assumption) | assumption)); obtain ⟨ad173, A173_5, c173_5, e173, hx173_0, hx173_1, hx173_2, hx173_3, hx173_4, hx173_5, hl173_5, hi173_5⟩ := at_T61 (Kd.S_reads' HO_14.out).2.2 t157 p173 q173; obtain rfl : (⟨go43, 0, none⟩ : Addr) = ad173 := (by injection e173); obtain ⟨ce173, hce173, hMe173, hcc173⟩ := Kd.S_get HO_14.out z61 t157 p173 (by first | exact q173 | exact of_decide_eq_true (by first | (with_reducible assumption) | assumption) | (have e_ := (Kd.S_reads' HO_14.out).1; omega)); obtain ⟨ve173_5, rfl, ge173_5⟩ := k61_openM hMe173; have hv173_5 := hcc173 5 _ rfl; rw [add_field _ _ 5 (by omega)] at hv173_5; replace hv173_5 := Option.some.inj (hv173_5.symm.trans hx173_5); rw [hv173_5] at ge173_5; have HL173_5 := Aside0.mk (show Kd.R (Kd.int .i64) 3 _ _ _ _ ((rd_T61 y172 t157).f5) from ge173_5); clear hv173_5 ge173_5; have HX173_5 := Aside0.mk hx173_5; clear hcc173 hce173; (first | simp only [add_plain] at hx173_0 | simp only [add_at] at hx173_0 | simp only [Addr.add, Nat.zero_add] at hx173_0 | skip); (first | simp only [add_plain] at hx173_1 | simp only [add_at] at hx173_1 | simp only [Addr.add, Nat.zero_add] at hx173_1 | skip); (first | simp only [add_plain] at hx173_2 | simp only [add_at] at hx173_2 | simp only [Addr.add, Nat.zero_add] at hx173_2 | skip); (first | simp only [add_plain] at hx173_3 | simp only [add_at] at hx173_3 | simp only [Addr.add, Nat.zero_add] at hx173_3 | skip); (first | simp only [add_plain] at hx173_4 | simp only [add_at] at hx173_4 | simp only [Addr.add, Nat.zero_add] at hx173_4 | skip); (first | simp only [add_plain] at hx173_5 | simp only [add_at] at hx173_5 | simp only [Addr.add, Nat.zero_add] at hx173_5 | skip); have HR173_5 := Aside0.mk hi173_5; have HC173_5 := Aside0.mk hl173_5; clear hi173_5 hl173_5; replace p173 := eq_true p173; replace q173 := eq_true q173; have p38 : 0 ≤ (t157 : Int) := of_decide_eq_true (by first | (with_reducible assumption) | assumption); have q38 : (t157 : Int) < ((t154.length : Int) : Int) := of_decide_eq_true (by first | (with_reducible assumption) | assumption); obtain ⟨_, ce38, hcl38, hM38, hcc38, hfr38, _, _⟩ := Kd.S_elem HO_14.out z61 (t157 : Int) p38 q38; obtain ⟨ve38_5, rfl, ge38_5⟩ := k61_openM hM38; have hx38_0 : w51.cell? ⟨go43, (t157 : Int).toNat * 6, none⟩ = some (.int .i64 ((rd_T61 y172 t157).f0)) := hcc38 0 _ rfl; have hx38_1 : w51.cell? ⟨go43, (t157 : Int).toNat * 6 + 1, none⟩ = some (.int .i64 ((rd_T61 y172 t157).f1)) := hcc38 1 _ rfl; have hx38_2 : w51.cell? ⟨go43, (t157 : Int).toNat * 6 + 2, none⟩ = some (.int .i64 ((rd_T61 y172 t157).f2)) := hcc38 2 _ rfl; have hx38_3 : w51.cell? ⟨go43, (t157 : Int).toNat * 6 + 3, none⟩ = some (.int .i64 ((rd_T61 y172 t157).f3)) := hcc38 3 _ rfl; have hx38_4 : w51.cell? ⟨go43, (t157 : Int).toNat * 6 + 4, none⟩ = some (.int .i64 ((rd_T61 y172 t157).f4)) := hcc38 4 _ rfl; have hx38_5 : w51.cell? ⟨go43, (t157 : Int).toNat * 6 + 5, none⟩ = some (ve38_5) := hcc38 5 _ rfl; have hf38_0 : w51.frozen? ⟨go43, (t157 : Int).toNat * 6, none⟩ = false := hfr38 0; have hf38_1 : w51.frozen? ⟨go43, (t157 : Int).toNat * 6 + 1, none⟩ = false := hfr38 1; have hf38_2 : w51.frozen? ⟨go43, (t157 : Int).toNat * 6 + 2, none⟩ = false := hfr38 2; have hf38_3 : w51.frozen? ⟨go43, (t157 : Int).toNat * 6 + 3, none⟩ = false := hfr38 3; have hf38_4 : w51.frozen? ⟨go43, (t157 : Int).toNat * 6 + 4, none⟩ = false := hfr38 4; have hf38_5 : w51.frozen? ⟨go43, (t157 : Int).toNat * 6 + 5, none⟩ = false := hfr38 5; clear hcl38 hcc38 hfr38 hM38; replace p38 := eq_true p38; replace q38 := eq_true q38; have HX53 := Aside0.mk (show Kd.S k61 61 w51 w.heap.size (fun k_ => ((fun _ => True)) k_ ∧ ¬ ((fun _ => False)) k_) (.slice (some ⟨go43, 0, none⟩) t154.length co42) y172 from (by (with_reducible repeat (first | apply Kd.S_alloc | apply Kd.S_drewN | apply Kd.S_drew)); exact Kd.S_mono HO_14.out (fun k_ hk => ⟨trivial, fun e_ => e_⟩))); obtain ⟨oki53, ce53, hcl53, hM53, hcc53, hfr53, hoki53, hH53⟩ := Kd.S_elem HX53.out z61 (t157 : Int) (of_decide_eq_true (by first | (with_reducible assumption) | assumption)) (by have h_ : (t157 : Int) < ((t154.length : Int) : Int) := of_decide_eq_true (by first | (with_reducible assumption) | assumption); first | exact h_ | (have e_ := (Kd.S_reads' HO_14.out).1; omega) | simpa using h_); obtain ⟨ve53_5, rfl, ge53_5⟩ := k61_openM hM53; have HP53 := Kd.S_seg hH53 (of_decide_eq_true (by first | (with_reducible assumption) | assumption)) (by have h_ : (t157 : Int) < ((t154.length : Int) : Int) := of_decide_eq_true (by first | (with_reducible assumption) | assumption); first | exact h_ | (have e_ := (Kd.S_reads' HO_14.out).1; omega) | simpa using h_) (seg := [.int .i64 (wrap64 (((rd_T61 y172 t157).f4) + 1))]) (j := 4) (show 5 ≤ 6 from by decide) (x' := (⟨(rd_T61 y172 t157).f0, (rd_T61 y172 t157).f1, (rd_T61 y172 t157).f2, (rd_T61 y172 t157).f3, wrap64 (((rd_T61 y172 t157).f4) + 1), (rd_T61 y172 t157).f5⟩ : S61)) (k61_mkM _ _ _ (⟨(rd_T61 y172 t157).f0, (rd_T61 y172 t157).f1, (rd_T61 y172 t157).f2, (rd_T61 y172 t157).f3, wrap64 (((rd_T61 y172 t157).f4) + 1), (rd_T61 y172 t157).f5⟩ : S61) (Kd.R_mono ge53_5 (fun _ h_ => Or.inl h_))) (fun _ hk => hk) (fun k_ hk_ => hk_.elim); have hx53_4 := hcc53 4 _ rfl; (try simp only [show (k61).sz = 6 from rfl, Nat.mul_one, Nat.add_zero] at hx53_4); have hf53_4 := hfr53 4; (try simp only [show (k61).sz = 6 from rfl, Nat.mul_one, Nat.add_zero] at hf53_4); clear hcl53 hcc53 hfr53 hM53 hoki53 hH53) | ((with_reducible refine gate_store (t := 3) (p := 90) rfl ?_); refine store_event (t := 3) (p := 90) (v := ?vo_w54) (w1 := (w51.setCell ⟨go43, (t157 : Int).toNat * 6 + 4, none⟩ (.int .i64 (wrap64 (((rd_T61 y172 t157).f4) + 1))))) ?hg ?ho ?hn ?hr ?_; (case ho => rfl); (case hg => rfl); (case hn => rfl); (case hr => first | (go_simp; done) | (go_simp; rfl)); intro w54 hw; have hg : w51.grownBy w54 (some go43) := (by rw [hw]; exact HP53.2); have hp_ : Kd.S k61 61 w54 w.heap.size (fun _ => True) (.slice (some ⟨go43, 0, none⟩) t154.length co42) y174 := (by rw [hw, Ny174.out]; exact HP53.1); clear HP53; have n0_ := Aside0.mk (hp_); have n1_ := Aside0.mk (Kd.R_after (v := (.slice (some ⟨go43, 0, none⟩) t154.length co42)) (v1 := (.slice (some ⟨go43, 0, none⟩) t154.length co42)) (ok := (fun _ => True)) (by (with_reducible repeat (first | apply Kd.R_alloc | apply Kd.R_drewN | apply Kd.R_drew)); exact HL173_5.out) hg (.inl rfl)); have n2_ := Aside0.mk ((by rw [hw]; exact below_set (HB.out) GB43.out : Below w.heap.size w w54)); clear HO_14; clear HL173_5; clear HB; have HO_14 := n0_; have HL173_5 := n1_; have HB := n2_; clear n0_ n1_ n2_; clear hg hw hp_; have p175 : 0 ≤ (t157 : Int) := of_decide_eq_true (by first | (with_reducible assumption) | assumption); have q175 : t157 < (y174.length : Int) := (by have h_ : (t157 : Int) < ((t154.length : Int) : Int) := of_decide_eq_true (by first | (with_reducible assumption) | assumption); first | (have e_ := (Kd.S_reads' HO_14.out).1; omega) | simpa only [Ny167.out, Ny172.out, Ny174.out, List.length_set] using h_); have ql175 : ((t157 : Int) < ((t154.length : Int) : Int)) = True := eq_true (of_decide_eq_true (by first | (with_reducible assumption) | assumption)); obtain ⟨ad175, A175_5, c175_5, e175, hx175_0, hx175_1, hx175_2, hx175_3, hx175_4, hx175_5, hl175_5, hi175_5⟩ := at_T61 (Kd.S_reads' HO_14.out).2.2 t157 p175 q175; obtain rfl : (⟨go43, 0, none⟩ : Addr) = ad175 := (by injection e175); obtain ⟨ce175, hce175, hMe175, hcc175⟩ := Kd.S_get HO_14.out z61 t157 p175 (by first | exact q175 | exact of_decide_eq_true (by first | (with_reducible assumption) | assumption) | (have e_ := (Kd.S_reads' HO_14.out).1; omega)); obtain ⟨ve175_5, rfl, ge175_5⟩ := k61_openM hMe175; have hv175_5 := hcc175 5 _ rfl; rw [add_field _ _ 5 (by omega)] at hv175_5; replace hv175_5 := Option.some.inj (hv175_5.symm.trans hx175_5); rw [hv175_5] at ge175_5; have HL175_5 := Aside0.mk (show Kd.R (Kd.int .i64) 3 _ _ _ _ ((rd_T61 y174 t157).f5) from ge175_5); clear hv175_5 ge175_5; have HX175_5 := Aside0.mk hx175_5; clear hcc175 hce175; (first | simp only [add_plain] at hx175_0 | simp only [add_at] at hx175_0 | simp only [Addr.add, Nat.zero_add] at hx175_0 | skip); (first | simp only [add_plain] at hx175_1 | simp only [add_at] at hx175_1 | simp only [Addr.add, Nat.zero_add] at hx175_1 | skip); (first | simp only [add_plain] at hx175_2 | simp only [add_at] at hx175_2 | simp only [Addr.add, Nat.zero_add] at hx175_2 | skip); (first | simp only [add_plain] at hx175_3 | simp only [add_at] at hx175_3 | simp only [Addr.add, Nat.zero_add] at hx175_3 | skip); (first | simp only [add_plain] at hx175_4 | simp only [add_at] at hx175_4 | simp only [Addr.add, Nat.zero_add] at hx175_4 | skip); (first | simp only [add_plain] at hx175_5 | simp only [add_at] at hx175_5 | simp only [Addr.add, Nat.zero_add] at hx175_5 | skip); have HR175_5 := Aside0.mk hi175_5; have HC175_5 := Aside0.mk hl175_5; clear hi175_5 hl175_5; replace p175 := eq_true p175; replace q175 := eq_true q175; have p39 : 0 ≤ (t157 : Int) := of_decide_eq_true (by first | (with_reducible assumption) | assumption); have q39 : (t157 : Int) < ((t154.length : Int) : Int) := of_decide_eq_true (by first | (with_reducible assumption) | assumption); obtain ⟨_, ce39, hcl39, hM39, hcc39, hfr39, _, _⟩ := Kd.S_elem HO_14.out z61 (t157 : Int) p39 q39; obtain ⟨ve39_5, rfl, ge39_5⟩ := k61_openM hM39; have hx39_0 : w54.cell? ⟨go43, (t157 : Int).toNat * 6, none⟩ = some (.int .i64 ((rd_T61 y174 t157).f0)) := hcc39 0 _ rfl; have hx39_1 : w54.cell? ⟨go43, (t157 : Int).toNat * 6 + 1, none⟩ = some (.int .i64 ((rd_T61 y174 t157).f1)) := hcc39 1 _ rfl; have hx39_2 : w54.cell? ⟨go43, (t157 : Int).toNat * 6 + 2, none⟩ = some (.int .i64 ((rd_T61 y174 t157).f2)) := hcc39 2 _ rfl; have hx39_3 : w54.cell? ⟨go43, (t157 : Int).toNat * 6 + 3, none⟩ = some (.int .i64 ((rd_T61 y174 t157).f3)) := hcc39 3 _ rfl; have hx39_4 : w54.cell? ⟨go43, (t157 : Int).toNat * 6 + 4, none⟩ = some (.int .i64 ((rd_T61 y174 t157).f4)) := hcc39 4 _ rfl; have hx39_5 : w54.cell? ⟨go43, (t157 : Int).toNat * 6 + 5, none⟩ = some (ve39_5) := hcc39 5 _ rfl; have hf39_0 : w54.frozen? ⟨go43, (t157 : Int).toNat * 6, none⟩ = false := hfr39 0; have hf39_1 : w54.frozen? ⟨go43, (t157 : Int).toNat * 6 + 1, none⟩ = false := hfr39 1; have hf39_2 : w54.frozen? ⟨go43, (t157 : Int).toNat * 6 + 2, none⟩ = false := hfr39 2; have hf39_3 : w54.frozen? ⟨go43, (t157 : Int).toNat * 6 + 3, none⟩ = false := hfr39 3; have hf39_4 : w54.frozen? ⟨go43, (t157 : Int).toNat * 6 + 4, none⟩ = false := hfr39 4; have hf39_5 : w54.frozen? ⟨go43, (t157 : Int).toNat * 6 + 5, none⟩ = false := hfr39 5; clear hcl39 hcc39 hfr39 hM39; replace p39 := eq_true p39; replace q39 := eq_true q39; have HX55 := Aside0.mk (show Kd.S k61 61 w54 w.heap.size (fun k_ => ((fun _ => True)) k_ ∧ ¬ ((fun _ => False)) k_) (.slice (some ⟨go43, 0, none⟩) t154.length co42) y174 from (by (with_reducible repeat (first | apply Kd.S_alloc | apply Kd.S_drewN | apply Kd.S_drew)); exact Kd.S_mono HO_14.out (fun k_ hk => ⟨trivial, fun e_ => e_⟩))); obtain ⟨oki55, ce55, hcl55, hM55, hcc55, hfr55, hoki55, hH55⟩ := Kd.S_elem HX55.out z61 (t157 : Int) (of_decide_eq_true (by first | (with_reducible assumption) | assumption)) (by have h_ : (t157 : Int) < ((t154.length : Int) : Int) := of_decide_eq_true (by first | (with_reducible assumption) | assumption); first | exact h_ | (have e_ := (Kd.S_reads' HO_14.out).1; omega) | simpa using h_); obtain ⟨ve55_5, rfl, ge55_5⟩ := k61_openM hM55; have HP55 := Kd.S_seg hH55 (of_decide_eq_true (by first | (with_reducible assumption) | assumption)) (by have h_ : (t157 : Int) < ((t154.length : Int) : Int) := of_decide_eq_true (by first | (with_reducible assumption) | assumption); first | exact h_ | (have e_ := (Kd.S_reads' HO_14.out).1; omega) | simpa using h_) (seg := [.int .i64 (wrap64 (((rd_T61 y174 t157).f3) + a4))]) (j := 3) (show 4 ≤ 6 from by decide) (x' := (⟨(rd_T61 y174 t157).f0, (rd_T61 y174 t157).f1, (rd_T61 y174 t157).f2, wrap64 (((rd_T61 y174 t157).f3) + a4), (rd_T61 y174 t157).f4, (rd_T61 y174 t157).f5⟩ : S61)) (k61_mkM _ _ _ (⟨(rd_T61 y174 t157).f0, (rd_T61 y174 t157).f1, (rd_T61 y174 t157).f2, wrap64 (((rd_T61 y174 t157).f3) + a4), (rd_T61 y174 t157).f4, (rd_T61 y174 t157).f5⟩ : S61) (Kd.R_mono ge55_5 (fun _ h_ => Or.inl h_))) (fun _ hk => hk) (fun k_ hk_ => hk_.elim); have hx55_3 := hcc55 3 _ rfl; (try simp only [show (k61).sz = 6 from rfl, Nat.mul_one, Nat.add_zero] at hx55_3); have hf55_3 := hfr55 3; (try simp only [show (k61).sz = 6 from rfl, Nat.mul_one, Nat.add_zero] at hf55_3); clear hcl55 hcc55 hfr55 hM55 hoki55 hH55) | ((with_reducible refine gate_store (t := 3) (p := 101) rfl ?_); refine store_event (t := 3) (p := 101) (v := ?vo_w56) (w1 := (w54.setCell ⟨go43, (t157 : Int).toNat * 6 + 3, none⟩ (.int .i64 (wrap64 (((rd_T61 y174 t157).f3) + a4))))) ?hg ?ho ?hn ?hr ?_; (case ho => rfl); (case hg => rfl); (case hn => rfl); (case hr => first | (go_simp; done) | (go_simp; rfl)); intro w56 hw; have hg : w54.grownBy w56 (some go43) := (by rw [hw]; exact HP55.2); have hp_ : Kd.S k61 61 w56 w.heap.size (fun _ => True) (.slice (some ⟨go43, 0, none⟩) t154.length co42) y176 := (by rw [hw, Ny176.out]; exact HP55.1); clear HP55; have n0_ := Aside0.mk (hp_); have n1_ := Aside0.mk (Kd.R_after (v := (.slice (some ⟨go43, 0, none⟩) t154.length co42)) (v1 := (.slice (some ⟨go43, 0, none⟩) t154.length co42)) (ok := (fun _ => True)) (by (with_reducible repeat (first | apply Kd.R_alloc | apply Kd.R_drewN | apply Kd.R_drew)); exact HL173_5.out) hg (.inl rfl)); have n2_ := Aside0.mk (Kd.R_after (v := (.slice (some ⟨go43, 0, none⟩) t154.length co42)) (v1 := (.slice (some ⟨go43, 0, none⟩) t154.length co42)) (ok := (fun _ => True)) (by (with_reducible repeat (first | apply Kd.R_alloc | apply Kd.R_drewN | apply Kd.R_drew)); exact HL175_5.out) hg (.inl rfl)); have n3_ := Aside0.mk ((by rw [hw]; exact below_set (HB.out) GB43.out : Below w.heap.size w w56)); clear HO_14; clear HL173_5; clear HL175_5; clear HB; have HO_14 := n0_; have HL173_5 := n1_; have HL175_5 := n2_; have HB := n3_; clear n0_ n1_ n2_ n3_; clear hg hw hp_; have p177 : 0 ≤ (t158 : Int) := of_decide_eq_true (by first | (with_reducible assumption) | assumption); have q177 : t158 < (y176.length : Int) := (by have h_ : (t158 : Int) < ((t154.length : Int) : Int) := of_decide_eq_true (by first | (with_reducible assumption) | assumption); first | (have e_ := (Kd.S_reads' HO_14.out).1; omega) | simpa only [Ny167.out, Ny172.out, Ny174.out, Ny176.out, List.length_set] using h_); have ql177 : ((t158 : Int) < ((t154.length : Int) : Int)) = True := eq_true (of_decide_eq_true (by first | (with_reducible assumption) | assumption)); obtain ⟨ad177, A177_5, c177_5, e177, hx177_0, hx177_1, hx177_2, hx177_3, hx177_4, hx177_5, hl177_5, hi177_5⟩ := at_T61 (Kd.S_reads' HO_14.out).2.2 t158 p177 q177; obtain rfl : (⟨go43, 0, none⟩ : Addr) = ad177 := (by injection e177); obtain ⟨ce177, hce177, hMe177, hcc177⟩ := Kd.S_get HO_14.out z61 t158 p177 (by first | exact q177 | exact of_decide_eq_true (by first | (with_reducible assumption) | assumption) | (have e_ := (Kd.S_reads' HO_14.out).1; omega)); obtain ⟨ve177_5, rfl, ge177_5⟩ := k61_openM hMe177; have hv177_5 := hcc177 5 _ rfl; rw [add_field _ _ 5 (by omega)] at hv177_5; replace hv177_5 := Option.some.inj (hv177_5.symm.trans hx177_5); rw [hv177_5] at ge177_5; have HL177_5 := Aside0.mk (show Kd.R (Kd.int .i64) 3 _ _ _ _ ((rd_T61 y176 t158).f5) from ge177_5); clear hv177_5 ge177_5; have HX177_5 := Aside0.mk hx177_5; clear hcc177 hce177; (first | simp only [add_plain] at hx177_0 | simp only [add_at] at hx177_0 | simp only [Addr.add, Nat.zero_add] at hx177_0 | skip); (first | simp only [add_plain] at hx177_1 | simp only [add_at] at hx177_1 | simp only [Addr.add, Nat.zero_add] at hx177_1 | skip); (first | simp only [add_plain] at hx177_2 | simp only [add_at] at hx177_2 | simp only [Addr.add, Nat.zero_add] at hx177_2 | skip); (first | simp only [add_plain] at hx177_3 | simp only [add_at] at hx177_3 | simp only [Addr.add, Nat.zero_add] at hx177_3 | skip); (first | simp only [add_plain] at hx177_4 | simp only [add_at] at hx177_4 | simp only [Addr.add, Nat.zero_add] at hx177_4 | skip); (first | simp only [add_plain] at hx177_5 | simp only [add_at] at hx177_5 | simp only [Addr.add, Nat.zero_add] at hx177_5 | skip); have HR177_5 := Aside0.mk hi177_5; have HC177_5 := Aside0.mk hl177_5; clear hi177_5 hl177_5; replace p177 := eq_true p177; replace q177 := eq_true q177; have p40 : 0 ≤ (t158 : Int) := of_decide_eq_true (by first | (with_reducible assumption) | assumption); have q40 : (t158 : Int) < ((t154.length : Int) : Int) := of_decide_eq_true (by first | (with_reducible assumption) | assumption); obtain ⟨_, ce40, hcl40, hM40, hcc40, hfr40, _, _⟩ := Kd.S_elem HO_14.out z61 (t158 : Int) p40 q40; obtain ⟨ve40_5, rfl, ge40_5⟩ := k61_openM hM40; have hx40_0 : w56.cell? ⟨go43, (t158 : Int).toNat * 6, none⟩ = some (.int .i64 ((rd_T61 y176 t158).f0)) := hcc40 0 _ rfl; have hx40_1 : w56.cell? ⟨go43, (t158 : Int).toNat * 6 + 1, none⟩ = some (.int .i64 ((rd_T61 y176 t158).f1)) := hcc40 1 _ rfl; have hx40_2 : w56.cell? ⟨go43, (t158 : Int).toNat * 6 + 2, none⟩ = some (.int .i64 ((rd_T61 y176 t158).f2)) := hcc40 2 _ rfl; have hx40_3 : w56.cell? ⟨go43, (t158 : Int).toNat * 6 + 3, none⟩ = some (.int .i64 ((rd_T61 y176 t158).f3)) := hcc40 3 _ rfl; have hx40_4 : w56.cell? ⟨go43, (t158 : Int).toNat * 6 + 4, none⟩ = some (.int .i64 ((rd_T61 y176 t158).f4)) := hcc40 4 _ rfl; have hx40_5 : w56.cell? ⟨go43, (t158 : Int).toNat * 6 + 5, none⟩ = some (ve40_5) := hcc40 5 _ rfl; have hf40_0 : w56.frozen? ⟨go43, (t158 : Int).toNat * 6, none⟩ = false := hfr40 0; have hf40_1 : w56.frozen? ⟨go43, (t158 : Int).toNat * 6 + 1, none⟩ = false := hfr40 1; have hf40_2 : w56.frozen? ⟨go43, (t158 : Int).toNat * 6 + 2, none⟩ = false := hfr40 2; have hf40_3 : w56.frozen? ⟨go43, (t158 : Int).toNat * 6 + 3, none⟩ = false := hfr40 3; have hf40_4 : w56.frozen? ⟨go43, (t158 : Int).toNat * 6 + 4, none⟩ = false := hfr40 4; have hf40_5 : w56.frozen? ⟨go43, (t158 : Int).toNat * 6 + 5, none⟩ = false := hfr40 5; clear hcl40 hcc40 hfr40 hM40; replace p40 := eq_true p40; replace q40 := eq_true q40; have HX57 := Aside0.mk (show Kd.S k61 61 w56 w.heap.size (fun k_ => ((fun _ => True)) k_ ∧ ¬ ((fun _ => False)) k_) (.slice (some ⟨go43, 0, none⟩) t154.length co42) y176 from (by (with_reducible repeat (first | apply Kd.S_alloc | apply Kd.S_drewN | apply Kd.S_drew)); exact Kd.S_mono HO_14.out (fun k_ hk => ⟨trivial, fun e_ => e_⟩))); obtain ⟨oki57, ce57, hcl57, hM57, hcc57, hfr57, hoki57, hH57⟩ := Kd.S_elem HX57.out z61 (t158 : Int) (of_decide_eq_true (by first | (with_reducible assumption) | assumption)) (by have h_ : (t158 : Int) < ((t154.length : Int) : Int) := of_decide_eq_true (by first | (with_reducible assumption) | assumption); first | exact h_ | (have e_ := (Kd.S_reads' HO_14.out).1; omega) | simpa using h_); obtain ⟨ve57_5, rfl, ge57_5⟩ := k61_openM hM57; have HP57 := Kd.S_seg hH57 (of_decide_eq_true (by first | (with_reducible assumption) | assumption)) (by have h_ : (t158 : Int) < ((t154.length : Int) : Int) := of_decide_eq_true (by first | (with_reducible assumption) | assumption); first | exact h_ | (have e_ := (Kd.S_reads' HO_14.out).1; omega) | simpa using h_) (seg := [.int .i64 (wrap64 (((rd_T61 y176 t158).f3) + a5))]) (j := 3) (show 4 ≤ 6 from by decide) (x' := (⟨(rd_T61 y176 t158).f0, (rd_T61 y176 t158).f1, (rd_T61 y176 t158).f2, wrap64 (((rd_T61 y176 t158).f3) + a5), (rd_T61 y176 t158).f4, (rd_T61 y176 t158).f5⟩ : S61)) (k61_mkM _ _ _ (⟨(rd_T61 y176 t158).f0, (rd_T61 y176 t158).f1, (rd_T61 y176 t158).f2, wrap64 (((rd_T61 y176 t158).f3) + a5), (rd_T61 y176 t158).f4, (rd_T61 y176 t158).f5⟩ : S61) (Kd.R_mono ge57_5 (fun _ h_ => Or.inl h_))) (fun _ hk => hk) (fun k_ hk_ => hk_.elim); have hx57_3 := hcc57 3 _ rfl; (try simp only [show (k61).sz = 6 from rfl, Nat.mul_one, Nat.add_zero] at hx57_3); have hf57_3 := hfr57 3; (try simp only [show (k61).sz = 6 from rfl, Nat.mul_one, Nat.add_zero] at hf57_3); clear hcl57 hcc57 hfr57 hM57 hoki57 hH57) | ((with_reducible refine gate_store (t := 3) (p := 112) rfl ?_); refine store_event (t := 3) (p := 112) (v := ?vo_w58) (w1 := (w56.setCell ⟨go43, (t158 : Int).toNat * 6 + 3, none⟩ (.int .i64 (wrap64 (((rd_T61 y176 t158).f3) + a5))))) ?hg ?ho ?hn ?hr ?_; (case ho => rfl); (case hg => rfl); (case hn => rfl); (case hr => first | (go_simp; done) | (go_simp; rfl)); intro w58 hw; have hg : w56.grownBy w58 (some go43) := (by rw [hw]; exact HP57.2); have hp_ : Kd.S k61 61 w58 w.heap.size (fun _ => True) (.slice (some ⟨go43, 0, none⟩) t154.length co42) y178 := (by rw [hw, Ny178.out]; exact HP57.1); clear HP57; have n0_ := Aside0.mk (hp_); have n1_ := Aside0.mk (Kd.R_after (v := (.slice (some ⟨go43, 0, none⟩) t154.length co42)) (v1 := (.slice (some ⟨go43, 0, none⟩) t154.length co42)) (ok := (fun _ => True)) (by (with_reducible repeat (first | apply Kd.R_alloc | apply Kd.R_drewN | apply Kd.R_drew)); exact HL173_5.out) hg (.inl rfl)); have n2_ := Aside0.mk (Kd.R_after (v := (.slice (some ⟨go43, 0, none⟩) t154.length co42)) (v1 := (.slice (some ⟨go43, 0, none⟩) t154.length co42)) (ok := (fun _ => True)) (by (with_reducible repeat (first | apply Kd.R_alloc | apply Kd.R_drewN | apply Kd.R_drew)); exact HL175_5.out) hg (.inl rfl)); have n3_ := Aside0.mk (Kd.R_after (v := (.slice (some ⟨go43, 0, none⟩) t154.length co42)) (v1 := (.slice (some ⟨go43, 0, none⟩) t154.length co42)) (ok := (fun _ => True)) (by (with_reducible repeat (first | apply Kd.R_alloc | apply Kd.R_drewN | apply Kd.R_drew)); exact HL177_5.out) hg (.inl rfl)); have n4_ := Aside0.mk ((by rw [hw]; exact below_set (HB.out) GB43.out : Below w.heap.size w w58)); clear HO_14; clear HL173_5; clear HL175_5; clear HL177_5; clear HB; have HO_14 := n0_; have HL173_5 := n1_; have HL175_5 := n2_; have HL177_5 := n3_; have HB := n4_; clear n0_ n1_ n2_ n3_ n4_; clear hg hw hp_))
          (try simp only [Act.put, List.setIfInBounds_toArray, List.set_cons_zero, List.set_cons_succ])
          go_cut [] (fun wc => ∃ (kq : Nat) (x14_40 : List (S61)), Aside0 (spec_AddResult.j1 kq l0 x14_40 = some (r1, r2)) ∧ Aside0 (kq ≤ kj9) ∧ Aside0 (Kd.S k61 61 wc w.heap.size (fun _ => True) (.slice (some ⟨go43, 0, none⟩) t154.length co42) x14_40) ∧ Aside0 (Below w.heap.size w wc))
          case first =>
           have H := HC41.out
           clear HC41
           by_cases c59 : a3 = 1
           ·
            rw [if_pos c59] at H
            have c59b0 : (a3 == 1) = true := beq_iff_eq.mpr c59
            have c59b1 : (a3 != 1) = false := bne_eq_false_iff_eq.mpr c59
            clear c59
            (first | rw [c59b0] | (simp only [i64_w, i32_w]; rw [c59b0]) | skip)
            obtain ⟨y180, hy180⟩ : ∃ y_ : List (S61), y_ = (y178.set (t157 : Int).toNat (⟨(rd_T61 y178 t157).f0, (rd_T61 y178 t157).f1, wrap64 (((rd_T61 y178 t157).f2) + 1), (rd_T61 y178 t157).f3, (rd_T61 y178 t157).f4, (rd_T61 y178 t157).f5⟩ : S61)) := ⟨_, rfl⟩
            replace H : (spec_AddResult.j1 kj9 l0 y180) = some (r1, r2) := by first | (rw [hy180]; with_reducible exact H) | (have H2_ := (Option.bind_some _ _).symm.trans H; rw [hy180]; with_reducible exact H2_) | (have H2_ := (Option.bind_some _ _).symm.trans H; with_reducible exact H2_) | with_reducible exact H | (rw [hy180]; exact H) | exact H
            have Ny180 := Aside0.mk hy180
            clear hy180
            have H' := Aside0.mk H
            clear H
            have p179 : 0 ≤ (t157 : Int) := of_decide_eq_true (by first | (with_reducible assumption) | assumption)
            have q179 : t157 < (y178.length : Int) := (by have h_ : (t157 : Int) < ((t154.length : Int) : Int) := of_decide_eq_true (by first | (with_reducible assumption) | assumption); first | (have e_ := (Kd.S_reads' HO_14.out).1; omega) | simpa only [Ny167.out, Ny172.out, Ny174.out, Ny176.out, Ny178.out, List.length_set] using h_)
            have ql179 : ((t157 : Int) < ((t154.length : Int) : Int)) = True := eq_true (of_decide_eq_true (by first | (with_reducible assumption) | assumption))
            obtain ⟨ad179, A179_5, c179_5, e179, hx179_0, hx179_1, hx179_2, hx179_3, hx179_4, hx179_5, hl179_5, hi179_5⟩ := at_T61 (Kd.S_reads' HO_14.out).2.2 t157 p179 q179
            obtain rfl : (⟨go43, 0, none⟩ : Addr) = ad179 := (by injection e179)
            obtain ⟨ce179, hce179, hMe179, hcc179⟩ := Kd.S_get HO_14.out z61 t157 p179 (by first | exact q179 | exact of_decide_eq_true (by first | (with_reducible assumption) | assumption) | (have e_ := (Kd.S_reads' HO_14.out).1; omega))
            obtain ⟨ve179_5, rfl, ge179_5⟩ := k61_openM hMe179
            have hv179_5 := hcc179 5 _ rfl
            rw [add_field _ _ 5 (by omega)] at hv179_5
            replace hv179_5 := Option.some.inj (hv179_5.symm.trans hx179_5)
            rw [hv179_5] at ge179_5
            have HL179_5 := Aside0.mk (show Kd.R (Kd.int .i64) 3 _ _ _ _ ((rd_T61 y178 t157).f5) from ge179_5)
            clear hv179_5 ge179_5
            have HX179_5 := Aside0.mk hx179_5
            clear hcc179 hce179
            (first | simp only [add_plain] at hx179_0 | simp only [add_at] at hx179_0 | simp only [Addr.add, Nat.zero_add] at hx179_0 | skip)
            (first | simp only [add_plain] at hx179_1 | simp only [add_at] at hx179_1 | simp only [Addr.add, Nat.zero_add] at hx179_1 | skip)
            (first | simp only [add_plain] at hx179_2 | simp only [add_at] at hx179_2 | simp only [Addr.add, Nat.zero_add] at hx179_2 | skip)
            (first | simp only [add_plain] at hx179_3 | simp only [add_at] at hx179_3 | simp only [Addr.add, Nat.zero_add] at hx179_3 | skip)
            (first | simp only [add_plain] at hx179_4 | simp only [add_at] at hx179_4 | simp only [Addr.add, Nat.zero_add] at hx179_4 | skip)
            (first | simp only [add_plain] at hx179_5 | simp only [add_at] at hx179_5 | simp only [Addr.add, Nat.zero_add] at hx179_5 | skip)
            have HR179_5 := Aside0.mk hi179_5
            have HC179_5 := Aside0.mk hl179_5
            clear hi179_5 hl179_5
            replace p179 := eq_true p179
            replace q179 := eq_true q179
            have p60 : 0 ≤ (t157 : Int) := of_decide_eq_true (by first | (with_reducible assumption) | assumption)
            have q60 : (t157 : Int) < ((t154.length : Int) : Int) := of_decide_eq_true (by first | (with_reducible assumption) | assumption)
            obtain ⟨_, ce60, hcl60, hM60, hcc60, hfr60, _, _⟩ := Kd.S_elem HO_14.out z61 (t157 : Int) p60 q60
            obtain ⟨ve60_5, rfl, ge60_5⟩ := k61_openM hM60
            have hx60_0 : w58.cell? ⟨go43, (t157 : Int).toNat * 6, none⟩ = some (.int .i64 ((rd_T61 y178 t157).f0)) := hcc60 0 _ rfl
            have hx60_1 : w58.cell? ⟨go43, (t157 : Int).toNat * 6 + 1, none⟩ = some (.int .i64 ((rd_T61 y178 t157).f1)) := hcc60 1 _ rfl
            have hx60_2 : w58.cell? ⟨go43, (t157 : Int).toNat * 6 + 2, none⟩ = some (.int .i64 ((rd_T61 y178 t157).f2)) := hcc60 2 _ rfl
            have hx60_3 : w58.cell? ⟨go43, (t157 : Int).toNat * 6 + 3, none⟩ = some (.int .i64 ((rd_T61 y178 t157).f3)) := hcc60 3 _ rfl
            have hx60_4 : w58.cell? ⟨go43, (t157 : Int).toNat * 6 + 4, none⟩ = some (.int .i64 ((rd_T61 y178 t157).f4)) := hcc60 4 _ rfl
            have hx60_5 : w58.cell? ⟨go43, (t157 : Int).toNat * 6 + 5, none⟩ = some (ve60_5) := hcc60 5 _ rfl
            have hf60_0 : w58.frozen? ⟨go43, (t157 : Int).toNat * 6, none⟩ = false := hfr60 0
            have hf60_1 : w58.frozen? ⟨go43, (t157 : Int).toNat * 6 + 1, none⟩ = false := hfr60 1
            have hf60_2 : w58.frozen? ⟨go43, (t157 : Int).toNat * 6 + 2, none⟩ = false := hfr60 2
            have hf60_3 : w58.frozen? ⟨go43, (t157 : Int).toNat * 6 + 3, none⟩ = false := hfr60 3
            have hf60_4 : w58.frozen? ⟨go43, (t157 : Int).toNat * 6 + 4, none⟩ = false := hfr60 4
            have hf60_5 : w58.frozen? ⟨go43, (t157 : Int).toNat * 6 + 5, none⟩ = false := hfr60 5
            clear hcl60 hcc60 hfr60 hM60
            replace p60 := eq_true p60
            replace q60 := eq_true q60
            have HX61 := Aside0.mk (show Kd.S k61 61 w58 w.heap.size (fun k_ => ((fun _ => True)) k_ ∧ ¬ ((fun _ => False)) k_) (.slice (some ⟨go43, 0, none⟩) t154.length co42) y178 from (by (with_reducible repeat (first | apply Kd.S_alloc | apply Kd.S_drewN | apply Kd.S_drew)); exact Kd.S_mono HO_14.out (fun k_ hk => ⟨trivial, fun e_ => e_⟩)))
            obtain ⟨oki61, ce61, hcl61, hM61, hcc61, hfr61, hoki61, hH61⟩ := Kd.S_elem HX61.out z61 (t157 : Int) (of_decide_eq_true (by first | (with_reducible assumption) | assumption)) (by have h_ : (t157 : Int) < ((t154.length : Int) : Int) := of_decide_eq_true (by first | (with_reducible assumption) | assumption); first | exact h_ | (have e_ := (Kd.S_reads' HO_14.out).1; omega) | simpa using h_)
            obtain ⟨ve61_5, rfl, ge61_5⟩ := k61_openM hM61
            have HP61 := Kd.S_seg hH61 (of_decide_eq_true (by first | (with_reducible assumption) | assumption)) (by have h_ : (t157 : Int) < ((t154.length : Int) : Int) := of_decide_eq_true (by first | (with_reducible assumption) | assumption); first | exact h_ | (have e_ := (Kd.S_reads' HO_14.out).1; omega) | simpa using h_) (seg := [.int .i64 (wrap64 (((rd_T61 y178 t157).f2) + 1))]) (j := 2) (show 3 ≤ 6 from by decide) (x' := (⟨(rd_T61 y178 t157).f0, (rd_T61 y178 t157).f1, wrap64 (((rd_T61 y178 t157).f2) + 1), (rd_T61 y178 t157).f3, (rd_T61 y178 t157).f4, (rd_T61 y178 t157).f5⟩ : S61)) (k61_mkM _ _ _ (⟨(rd_T61 y178 t157).f0, (rd_T61 y178 t157).f1, wrap64 (((rd_T61 y178 t157).f2) + 1), (rd_T61 y178 t157).f3, (rd_T61 y178 t157).f4, (rd_T61 y178 t157).f5⟩ : S61) (Kd.R_mono ge61_5 (fun _ h_ => Or.inl h_))) (fun _ hk => hk) (fun k_ hk_ => hk_.elim)
            have hx61_2 := hcc61 2 _ rfl
            (try simp only [show (k61).sz = 6 from rfl, Nat.mul_one, Nat.add_zero] at hx61_2)
            have hf61_2 := hfr61 2
            (try simp only [show (k61).sz = 6 from rfl, Nat.mul_one, Nat.add_zero] at hf61_2)
            clear hcl61 hcc61 hfr61 hM61 hoki61 hH61
            go_wp2_with (first | ((with_reducible refine gate_store (t := 3) (p := 124) rfl ?_); refine store_event (t := 3) (p := 124) (v := ?vo_w62) (w1 := (w58.setCell ⟨go43, (t157 : Int).toNat * 6 + 2, none⟩ (.int .i64 (wrap64 (((rd_T61 y178 t157).f2) + 1))))) ?hg ?ho ?hn ?hr ?_; (case ho => rfl); (case hg => rfl); (case hn => rfl); (case hr => first | (go_simp; done) | (go_simp; rfl)); intro w62 hw; have hg : w58.grownBy w62 (some go43) := (by rw [hw]; exact HP61.2); have hp_ : Kd.S k61 61 w62 w.heap.size (fun _ => True) (.slice (some ⟨go43, 0, none⟩) t154.length co42) y180 := (by rw [hw, Ny180.out]; exact HP61.1); clear HP61; have n0_ := Aside0.mk (hp_); have n1_ := Aside0.mk (Kd.R_after (v := (.slice (some ⟨go43, 0, none⟩) t154.length co42)) (v1 := (.slice (some ⟨go43, 0, none⟩) t154.length co42)) (ok := (fun _ => True)) (by (with_reducible repeat (first | apply Kd.R_alloc | apply Kd.R_drewN | apply Kd.R_drew)); exact HL173_5.out) hg (.inl rfl)); have n2_ := Aside0.mk (Kd.R_after (v := (.slice (some ⟨go43, 0, none⟩) t154.length co42)) (v1 := (.slice (some ⟨go43, 0, none⟩) t154.length co42)) (ok := (fun _ => True)) (by (with_reducible repeat (first | apply Kd.R_alloc | apply Kd.R_drewN | apply Kd.R_drew)); exact HL175_5.out) hg (.inl rfl)); have n3_ := Aside0.mk (Kd.R_after (v := (.slice (some ⟨go43, 0, none⟩) t154.length co42)) (v1 := (.slice (some ⟨go43, 0, none⟩) t154.length co42)) (ok := (fun _ => True)) (by (with_reducible repeat (first | apply Kd.R_alloc | apply Kd.R_drewN | apply Kd.R_drew)); exact HL177_5.out) hg (.inl rfl)); have n4_ := Aside0.mk (Kd.R_after (v := (.slice (some ⟨go43, 0, none⟩) t154.length co42)) (v1 := (.slice (some ⟨go43, 0, none⟩) t154.length co42)) (ok := (fun _ => True)) (by (with_reducible repeat (first | apply Kd.R_alloc | apply Kd.R_drewN | apply Kd.R_drew)); exact HL179_5.out) hg (.inl rfl)); have n5_ := Aside0.mk ((by rw [hw]; exact below_set (HB.out) GB43.out : Below w.heap.size w w62)); clear HO_14; clear HL173_5; clear HL175_5; clear HL177_5; clear HL179_5; clear HB; have HO_14 := n0_; have HL173_5 := n1_; have HL175_5 := n2_; have HL177_5 := n3_; have HL179_5 := n4_; have HB := n5_; clear n0_ n1_ n2_ n3_ n4_ n5_; clear hg hw hp_))
            go_meet
            case rel => exact ⟨_, (y180), H', ⟨by have := HJ9.out; first | omega | exact Nat.le_refl _⟩, ⟨by (with_reducible repeat (first | apply Kd.S_alloc | apply Kd.S_drewN | apply Kd.S_drew)); exact HO_14.out⟩, ⟨by repeat (first | (with_reducible first | exact HB.out | apply below_alloc | apply pw_below_drewN | apply below_drew1) | exact HB.out)⟩⟩
           ·
            rw [if_neg c59] at H
            have c59b0 : (a3 == 1) = false := beq_eq_false_iff_ne.mpr c59
            have c59b1 : (a3 != 1) = true := bne_iff_ne.mpr c59
            (first | rw [c59b0] | (simp only [i64_w, i32_w]; rw [c59b0]) | skip)
            obtain ⟨y182, hy182⟩ : ∃ y_ : List (S61), y_ = (y178.set (t158 : Int).toNat (⟨(rd_T61 y178 t158).f0, (rd_T61 y178 t158).f1, wrap64 (((rd_T61 y178 t158).f2) + 1), (rd_T61 y178 t158).f3, (rd_T61 y178 t158).f4, (rd_T61 y178 t158).f5⟩ : S61)) := ⟨_, rfl⟩
            replace H : (spec_AddResult.j1 kj9 l0 y182) = some (r1, r2) := by first | (rw [hy182]; with_reducible exact H) | (have H2_ := (Option.bind_some _ _).symm.trans H; rw [hy182]; with_reducible exact H2_) | (have H2_ := (Option.bind_some _ _).symm.trans H; with_reducible exact H2_) | with_reducible exact H | (rw [hy182]; exact H) | exact H
            have Ny182 := Aside0.mk hy182
            clear hy182
            have H' := Aside0.mk H
            clear H
            have p181 : 0 ≤ (t158 : Int) := of_decide_eq_true (by first | (with_reducible assumption) | assumption)
            have q181 : t158 < (y178.length : Int) := (by have h_ : (t158 : Int) < ((t154.length : Int) : Int) := of_decide_eq_true (by first | (with_reducible assumption) | assumption); first | (have e_ := (Kd.S_reads' HO_14.out).1; omega) | simpa only [Ny167.out, Ny172.out, Ny174.out, Ny176.out, Ny178.out, List.length_set] using h_)
            have ql181 : ((t158 : Int) < ((t154.length : Int) : Int)) = True := eq_true (of_decide_eq_true (by first | (with_reducible assumption) | assumption))
            obtain ⟨ad181, A181_5, c181_5, e181, hx181_0, hx181_1, hx181_2, hx181_3, hx181_4, hx181_5, hl181_5, hi181_5⟩ := at_T61 (Kd.S_reads' HO_14.out).2.2 t158 p181 q181
            obtain rfl : (⟨go43, 0, none⟩ : Addr) = ad181 := (by injection e181)
            obtain ⟨ce181, hce181, hMe181, hcc181⟩ := Kd.S_get HO_14.out z61 t158 p181 (by first | exact q181 | exact of_decide_eq_true (by first | (with_reducible assumption) | assumption) | (have e_ := (Kd.S_reads' HO_14.out).1; omega))
            obtain ⟨ve181_5, rfl, ge181_5⟩ := k61_openM hMe181
            have hv181_5 := hcc181 5 _ rfl
            rw [add_field _ _ 5 (by omega)] at hv181_5
            replace hv181_5 := Option.some.inj (hv181_5.symm.trans hx181_5)
            rw [hv181_5] at ge181_5
            have HL181_5 := Aside0.mk (show Kd.R (Kd.int .i64) 3 _ _ _ _ ((rd_T61 y178 t158).f5) from ge181_5)
            clear hv181_5 ge181_5
            have HX181_5 := Aside0.mk hx181_5
            clear hcc181 hce181
            (first | simp only [add_plain] at hx181_0 | simp only [add_at] at hx181_0 | simp only [Addr.add, Nat.zero_add] at hx181_0 | skip)
            (first | simp only [add_plain] at hx181_1 | simp only [add_at] at hx181_1 | simp only [Addr.add, Nat.zero_add] at hx181_1 | skip)
            (first | simp only [add_plain] at hx181_2 | simp only [add_at] at hx181_2 | simp only [Addr.add, Nat.zero_add] at hx181_2 | skip)
            (first | simp only [add_plain] at hx181_3 | simp only [add_at] at hx181_3 | simp only [Addr.add, Nat.zero_add] at hx181_3 | skip)
            (first | simp only [add_plain] at hx181_4 | simp only [add_at] at hx181_4 | simp only [Addr.add, Nat.zero_add] at hx181_4 | skip)
            (first | simp only [add_plain] at hx181_5 | simp only [add_at] at hx181_5 | simp only [Addr.add, Nat.zero_add] at hx181_5 | skip)
            have HR181_5 := Aside0.mk hi181_5
            have HC181_5 := Aside0.mk hl181_5
            clear hi181_5 hl181_5
            replace p181 := eq_true p181
            replace q181 := eq_true q181
            have p63 : 0 ≤ (t158 : Int) := of_decide_eq_true (by first | (with_reducible assumption) | assumption)
            have q63 : (t158 : Int) < ((t154.length : Int) : Int) := of_decide_eq_true (by first | (with_reducible assumption) | assumption)
            obtain ⟨_, ce63, hcl63, hM63, hcc63, hfr63, _, _⟩ := Kd.S_elem HO_14.out z61 (t158 : Int) p63 q63
            obtain ⟨ve63_5, rfl, ge63_5⟩ := k61_openM hM63
            have hx63_0 : w58.cell? ⟨go43, (t158 : Int).toNat * 6, none⟩ = some (.int .i64 ((rd_T61 y178 t158).f0)) := hcc63 0 _ rfl
            have hx63_1 : w58.cell? ⟨go43, (t158 : Int).toNat * 6 + 1, none⟩ = some (.int .i64 ((rd_T61 y178 t158).f1)) := hcc63 1 _ rfl
            have hx63_2 : w58.cell? ⟨go43, (t158 : Int).toNat * 6 + 2, none⟩ = some (.int .i64 ((rd_T61 y178 t158).f2)) := hcc63 2 _ rfl
            have hx63_3 : w58.cell? ⟨go43, (t158 : Int).toNat * 6 + 3, none⟩ = some (.int .i64 ((rd_T61 y178 t158).f3)) := hcc63 3 _ rfl
            have hx63_4 : w58.cell? ⟨go43, (t158 : Int).toNat * 6 + 4, none⟩ = some (.int .i64 ((rd_T61 y178 t158).f4)) := hcc63 4 _ rfl
            have hx63_5 : w58.cell? ⟨go43, (t158 : Int).toNat * 6 + 5, none⟩ = some (ve63_5) := hcc63 5 _ rfl
            have hf63_0 : w58.frozen? ⟨go43, (t158 : Int).toNat * 6, none⟩ = false := hfr63 0
            have hf63_1 : w58.frozen? ⟨go43, (t158 : Int).toNat * 6 + 1, none⟩ = false := hfr63 1
            have hf63_2 : w58.frozen? ⟨go43, (t158 : Int).toNat * 6 + 2, none⟩ = false := hfr63 2
            have hf63_3 : w58.frozen? ⟨go43, (t158 : Int).toNat * 6 + 3, none⟩ = false := hfr63 3
            have hf63_4 : w58.frozen? ⟨go43, (t158 : Int).toNat * 6 + 4, none⟩ = false := hfr63 4
            have hf63_5 : w58.frozen? ⟨go43, (t158 : Int).toNat * 6 + 5, none⟩ = false := hfr63 5
            clear hcl63 hcc63 hfr63 hM63
            replace p63 := eq_true p63
            replace q63 := eq_true q63
            have HX64 := Aside0.mk (show Kd.S k61 61 w58 w.heap.size (fun k_ => ((fun _ => True)) k_ ∧ ¬ ((fun _ => False)) k_) (.slice (some ⟨go43, 0, none⟩) t154.length co42) y178 from (by (with_reducible repeat (first | apply Kd.S_alloc | apply Kd.S_drewN | apply Kd.S_drew)); exact Kd.S_mono HO_14.out (fun k_ hk => ⟨trivial, fun e_ => e_⟩)))
            obtain ⟨oki64, ce64, hcl64, hM64, hcc64, hfr64, hoki64, hH64⟩ := Kd.S_elem HX64.out z61 (t158 : Int) (of_decide_eq_true (by first | (with_reducible assumption) | assumption)) (by have h_ : (t158 : Int) < ((t154.length : Int) : Int) := of_decide_eq_true (by first | (with_reducible assumption) | assumption); first | exact h_ | (have e_ := (Kd.S_reads' HO_14.out).1; omega) | simpa using h_)
            obtain ⟨ve64_5, rfl, ge64_5⟩ := k61_openM hM64
            have HP64 := Kd.S_seg hH64 (of_decide_eq_true (by first | (with_reducible assumption) | assumption)) (by have h_ : (t158 : Int) < ((t154.length : Int) : Int) := of_decide_eq_true (by first | (with_reducible assumption) | assumption); first | exact h_ | (have e_ := (Kd.S_reads' HO_14.out).1; omega) | simpa using h_) (seg := [.int .i64 (wrap64 (((rd_T61 y178 t158).f2) + 1))]) (j := 2) (show 3 ≤ 6 from by decide) (x' := (⟨(rd_T61 y178 t158).f0, (rd_T61 y178 t158).f1, wrap64 (((rd_T61 y178 t158).f2) + 1), (rd_T61 y178 t158).f3, (rd_T61 y178 t158).f4, (rd_T61 y178 t158).f5⟩ : S61)) (k61_mkM _ _ _ (⟨(rd_T61 y178 t158).f0, (rd_T61 y178 t158).f1, wrap64 (((rd_T61 y178 t158).f2) + 1), (rd_T61 y178 t158).f3, (rd_T61 y178 t158).f4, (rd_T61 y178 t158).f5⟩ : S61) (Kd.R_mono ge64_5 (fun _ h_ => Or.inl h_))) (fun _ hk => hk) (fun k_ hk_ => hk_.elim)
            have hx64_2 := hcc64 2 _ rfl
            (try simp only [show (k61).sz = 6 from rfl, Nat.mul_one, Nat.add_zero] at hx64_2)
            have hf64_2 := hfr64 2
            (try simp only [show (k61).sz = 6 from rfl, Nat.mul_one, Nat.add_zero] at hf64_2)
            clear hcl64 hcc64 hfr64 hM64 hoki64 hH64
            go_wp2_with (first | ((with_reducible refine gate_store (t := 3) (p := 134) rfl ?_); refine store_event (t := 3) (p := 134) (v := ?vo_w65) (w1 := (w58.setCell ⟨go43, (t158 : Int).toNat * 6 + 2, none⟩ (.int .i64 (wrap64 (((rd_T61 y178 t158).f2) + 1))))) ?hg ?ho ?hn ?hr ?_; (case ho => rfl); (case hg => rfl); (case hn => rfl); (case hr => first | (go_simp; done) | (go_simp; rfl)); intro w65 hw; have hg : w58.grownBy w65 (some go43) := (by rw [hw]; exact HP64.2); have hp_ : Kd.S k61 61 w65 w.heap.size (fun _ => True) (.slice (some ⟨go43, 0, none⟩) t154.length co42) y182 := (by rw [hw, Ny182.out]; exact HP64.1); clear HP64; have n0_ := Aside0.mk (hp_); have n1_ := Aside0.mk (Kd.R_after (v := (.slice (some ⟨go43, 0, none⟩) t154.length co42)) (v1 := (.slice (some ⟨go43, 0, none⟩) t154.length co42)) (ok := (fun _ => True)) (by (with_reducible repeat (first | apply Kd.R_alloc | apply Kd.R_drewN | apply Kd.R_drew)); exact HL173_5.out) hg (.inl rfl)); have n2_ := Aside0.mk (Kd.R_after (v := (.slice (some ⟨go43, 0, none⟩) t154.length co42)) (v1 := (.slice (some ⟨go43, 0, none⟩) t154.length co42)) (ok := (fun _ => True)) (by (with_reducible repeat (first | apply Kd.R_alloc | apply Kd.R_drewN | apply Kd.R_drew)); exact HL175_5.out) hg (.inl rfl)); have n3_ := Aside0.mk (Kd.R_after (v := (.slice (some ⟨go43, 0, none⟩) t154.length co42)) (v1 := (.slice (some ⟨go43, 0, none⟩) t154.length co42)) (ok := (fun _ => True)) (by (with_reducible repeat (first | apply Kd.R_alloc | apply Kd.R_drewN | apply Kd.R_drew)); exact HL177_5.out) hg (.inl rfl)); have n4_ := Aside0.mk (Kd.R_after (v := (.slice (some ⟨go43, 0, none⟩) t154.length co42)) (v1 := (.slice (some ⟨go43, 0, none⟩) t154.length co42)) (ok := (fun _ => True)) (by (with_reducible repeat (first | apply Kd.R_alloc | apply Kd.R_drewN | apply Kd.R_drew)); exact HL181_5.out) hg (.inl rfl)); have n5_ := Aside0.mk ((by rw [hw]; exact below_set (HB.out) GB43.out : Below w.heap.size w w65)); clear HO_14; clear HL173_5; clear HL175_5; clear HL177_5; clear HL181_5; clear HB; have HO_14 := n0_; have HL173_5 := n1_; have HL175_5 := n2_; have HL177_5 := n3_; have HL181_5 := n4_; have HB := n5_; clear n0_ n1_ n2_ n3_ n4_ n5_; clear hg hw hp_))
            go_meet
            case rel => exact ⟨_, (y182), H', ⟨by have := HJ9.out; first | omega | exact Nat.le_refl _⟩, ⟨by (with_reducible repeat (first | apply Kd.S_alloc | apply Kd.S_drewN | apply Kd.S_drew)); exact HO_14.out⟩, ⟨by repeat (first | (with_reducible first | exact HB.out | apply below_alloc | apply pw_below_drewN | apply below_drew1) | exact HB.out)⟩⟩
          case rest =>
           clear HC41
           try clear c1
           try clear p1
           try clear q1
           try clear hx1
           try clear c2
           try clear p2
           try clear c3
           try clear p3
           try clear q3
           try clear hx3
           try clear c4
           try clear p4
           try clear q4
           try clear hx4
           try clear c5
           try clear hx5
           try clear c6
           try clear p6
           try clear q6
           try clear hx6
           try clear hf6
           try clear c7
           try clear c13
           try clear c14
           try clear c14b0
           try clear c16
           try clear c16b0
           try clear p16
           try clear q16
           try clear hx16
           try clear c17
           try clear p17
           try clear q17
           try clear hx17
           try clear c18
           try clear c18b0
           try clear c18b1
           try clear p18
           try clear q18
           try clear hx18
           try clear c20
           try clear c21
           try clear c23
           try clear c29
           try clear c30
           try clear c30b0
           try clear c31
           try clear c31b0
           try clear c32
           try clear p33
           try clear q33
           try clear c34
           try clear c34b0
           try clear c35
           try clear c35b0
           try clear c36
           try clear p37
           try clear q37
           try clear c38
           try clear p38
           try clear q38
           try clear hx38
           try clear hf38
           try clear c39
           try clear p39
           try clear q39
           try clear hx39
           try clear hf39
           try clear c40
           try clear p40
           try clear q40
           try clear hx40
           try clear hf40
           try clear c42
           try clear c43
           try clear c45
           try clear hx45
           try clear hf45
           try clear c48
           try clear c50
           try clear hx50
           try clear hf50
           try clear c53
           try clear hx53
           try clear hf53
           try clear c55
           try clear hx55
           try clear hf55
           try clear c57
           try clear hx57
           try clear hf57
           try clear c59
           try clear c59b0
           try clear c59b1
           try clear c60
           try clear p60
           try clear q60
           try clear hx60
           try clear hf60
           try clear c61
           try clear hx61
           try clear hf61
           try clear c63
           try clear p63
           try clear q63
           try clear hx63
           try clear hf63
           try clear c64
           try clear p64
           try clear hx64
           try clear hf64
           try clear hx163_0
           try clear hx163_1
           try clear hx163_2
           try clear hx163_3
           try clear hx163_4
           try clear hx163_5
           try clear hx168_0
           try clear hx168_1
           try clear hx168_2
           try clear hx168_3
           try clear hx168_4
           try clear hx168_5
           try clear hx173_0
           try clear hx173_1
           try clear hx173_2
           try clear hx173_3
           try clear hx173_4
           try clear hx173_5
           try clear hx175_0
           try clear hx175_1
           try clear hx175_2
           try clear hx175_3
           try clear hx175_4
           try clear hx175_5
           try clear hx177_0
           try clear hx177_1
           try clear hx177_2
           try clear hx177_3
           try clear hx177_4
           try clear hx177_5
           try clear hx179_0
           try clear hx179_1
           try clear hx179_2
           try clear hx179_3
           try clear hx179_4
           try clear hx179_5
           try clear hx181_0
           try clear hx181_1
           try clear hx181_2
           try clear hx181_3
           try clear hx181_4
           try clear hx181_5
           try clear hx38_0
           try clear hx38_1
           try clear hx38_2
           try clear hx38_3
           try clear hx38_4
           try clear hx38_5
           try clear hx39_0
           try clear hx39_1
           try clear hx39_2
           try clear hx39_3
           try clear hx39_4
           try clear hx39_5
           try clear hx40_0
           try clear hx40_1
           try clear hx40_2
           try clear hx40_3
           try clear hx40_4
           try clear hx40_5
           try clear hx45_0
           try clear hx50_0
           try clear hx53_4
           try clear hx55_3
           try clear hx57_3
           try clear hx60_0
           try clear hx60_1
           try clear hx60_2
           try clear hx60_3
           try clear hx60_4
           try clear hx60_5
           try clear hx61_2
           try clear hx63_0
           try clear hx63_1
           try clear hx63_2
           try clear hx63_3
           try clear hx63_4
           try clear hx63_5
           try clear hx64_2
           try clear p163
           try clear p168
           try clear p173
           try clear p175
           try clear p177
           try clear p179
           try clear p181
           try clear p2
           try clear p33
           try clear p37
           try clear p38
           try clear p39
           try clear p40
           try clear p60
           try clear p63
           try clear q163
           try clear q168
           try clear q173
           try clear q175
           try clear q177
           try clear q179
           try clear q181
           try clear q33
           try clear q37
           try clear q38
           try clear q39
           try clear q40
           try clear q60
           try clear q63
           obtain ⟨kq, x14_40, HA, HJ40, HO_14, HB⟩ := hcut
           have hl14_40 := (Kd.S_reads' HO_14.out).1
           rw [hl14_40] at HO_14
           (try simp only [hl14_40])
           cases kq with
           | zero => exact absurd HA.out (by simp [spec_AddResult.j1])
           | succ kj40 =>
            have H := HA.out
            clear HA
            simp only [spec_AddResult.j1] at H
            replace H := Option.bind_eq_some_iff.mp H
            obtain ⟨t183, A660, H⟩ := H
            replace H : (if t183 = true then (some (x14_40, true)) else ((spec_l19Copy.f kj40 l0).bind fun t184 => (some (t184, false)))) = some (r1, r2) := H
            have A66 := Aside0.mk A660
            clear A660
            by_cases c67 : t183 = true
            ·
             subst c67
             have H1 : (some (x14_40, true)) = some (r1, r2) := by rw [if_pos rfl] at H; exact H
             clear H
             have H := H1
             clear H1
             simp only [Option.some.injEq, Prod.mk.injEq] at H
             obtain ⟨rfl, rfl⟩ := H
             go_wp2_with (first | ((with_reducible refine gate_callee (f := 20) rfl ?_); refine goesL_ (some 136) rfl rfl Try.func20 (by kernel_rfl) rfl #[.slice (some ⟨go43, 0, none⟩) x14_40.length co42] rfl (by (try simp only [List.map_toArray, List.map_cons, List.map_nil]); first | done | rfl | (simp only [List.length_drop, List.length_take]; rfl)) ?_; (with_reducible refine (spec_AreTeams.calls kj40 _ _ x14_40 true _ ?side1 ?side2 A66.out).mono ?_); (case side1 => repeat (first | exact (Kd.S_reads' HO_14.out).2.2 | (with_reducible refine Kd.C_alloc ?_ _) | (with_reducible refine Kd.C_drewN ?_ _) | (with_reducible refine Kd.C_drew ?_))); (case side2 => exact (Kd.S_reads' HO_14.out).2.1); rintro e w68 ⟨rfl, hb⟩; refine ⟨_, rfl, ?_⟩; have n0_ := Aside0.mk (Kd.S_below (by (with_reducible repeat (first | apply Kd.S_alloc | apply Kd.S_drewN | apply Kd.S_drew)); exact HO_14.out) hb); have n1_ := Aside0.mk (below_step (by repeat (first | (with_reducible first | exact HB.out | apply below_alloc | apply pw_below_drewN | apply below_drew1) | exact HB.out)) hb); clear HO_14; clear HB; have HO_14 := n0_; have HB := n1_; clear n0_ n1_; (try clear hb); (try clear hb2); (try clear hk); (try clear hi)))
             go_ret2
             exact ⟨_, by first | rfl | (simp [errW_none, errW_some] <;> rfl) | (simp [*, errW_none, errW_some] <;> rfl), by (with_reducible repeat (first | apply Kd.S_alloc | apply Kd.S_drewN | apply Kd.S_drew)); exact HO_14.out, by repeat (first | (with_reducible first | exact HB.out | apply below_alloc | apply pw_below_drewN | apply below_drew1) | exact HB.out)⟩
            ·
             replace c67 := Bool.eq_false_iff.mpr c67
             subst c67
             have H1 : ((spec_l19Copy.f kj40 l0).bind fun t184 => (some (t184, false))) = some (r1, r2) := by rw [if_neg (show ¬ (false = true) by decide)] at H; exact H
             clear H
             have H := H1
             clear H1
             replace H := Option.bind_eq_some_iff.mp H
             obtain ⟨t184, A690, H⟩ := H
             replace H : (some (t184, false)) = some (r1, r2) := H
             have A69 := Aside0.mk A690
             clear A690
             simp only [Option.some.injEq, Prod.mk.injEq] at H
             obtain ⟨rfl, rfl⟩ := H
             go_wp2_with (first | ((with_reducible refine gate_callee (f := 20) rfl ?_); refine goesL_ (some 136) rfl rfl Try.func20 (by kernel_rfl) rfl #[.slice (some ⟨go43, 0, none⟩) x14_40.length co42] rfl (by (try simp only [List.map_toArray, List.map_cons, List.map_nil]); first | done | rfl | (simp only [List.length_drop, List.length_take]; rfl)) ?_; (with_reducible refine (spec_AreTeams.calls kj40 _ _ x14_40 false _ ?side1 ?side2 A66.out).mono ?_); (case side1 => repeat (first | exact (Kd.S_reads' HO_14.out).2.2 | (with_reducible refine Kd.C_alloc ?_ _) | (with_reducible refine Kd.C_drewN ?_ _) | (with_reducible refine Kd.C_drew ?_))); (case side2 => exact (Kd.S_reads' HO_14.out).2.1); rintro e w70 ⟨rfl, hb⟩; refine ⟨_, rfl, ?_⟩; have n0_ := Aside0.mk (Kd.S_below (by (with_reducible repeat (first | apply Kd.S_alloc | apply Kd.S_drewN | apply Kd.S_drew)); exact HO_14.out) hb); have n1_ := Aside0.mk (below_step (by repeat (first | (with_reducible first | exact HB.out | apply below_alloc | apply pw_below_drewN | apply below_drew1) | exact HB.out)) hb); clear HO_14; clear HB; have HO_14 := n0_; have HB := n1_; clear n0_ n1_; (try clear hb); (try clear hb2); (try clear hk); (try clear hi)) | ((with_reducible refine gate_callee (f := 74) rfl ?_); refine goesL_ (some 139) rfl rfl Try.func74 (by kernel_rfl) rfl #[.slice A0 l0.length c0] rfl (by (try simp only [List.map_toArray, List.map_cons, List.map_nil]); first | done | rfl | (simp only [List.length_drop, List.length_take]; rfl)) ?_; (with_reducible refine (spec_l19Copy.calls kj40 _ _ l0 t184 _ ?side1 ?side2 A69.out).mono ?_); (case side1 => repeat (first | exact (Kd.C_below HR0.out HB.out) | (with_reducible refine Kd.C_alloc ?_ _) | (with_reducible refine Kd.C_drewN ?_ _) | (with_reducible refine Kd.C_drew ?_))); (case side2 => exact HC0.out); rintro e w71 ⟨v185, rfl, ho0, hb⟩; refine ⟨_, rfl, ?_⟩; have n0_ := Aside0.mk (Kd.S_elder' (by (with_reducible repeat (first | apply Kd.S_alloc | apply Kd.S_drewN | apply Kd.S_drew)); exact HO_14.out) (Kd.S_base ho0) hb); have n1_ := Aside0.mk (Kd.S_lower (Kd.S_new' ho0 (Kd.S_lt (by (with_reducible repeat (first | apply Kd.S_alloc | apply Kd.S_drewN | apply Kd.S_drew)); exact HO_14.out))) (below_size (by repeat (first | (with_reducible first | exact HB.out | apply below_alloc | apply pw_below_drewN | apply below_drew1) | exact HB.out)))); have n2_ := Aside0.mk (below_step (by repeat (first | (with_reducible first | exact HB.out | apply below_alloc | apply pw_below_drewN | apply below_drew1) | exact HB.out)) hb); clear HO_14; clear HB; have HO_14 := n0_; have HO186 := n1_; have HB := n2_; clear n0_ n1_ n2_; (try clear hb); (try clear hb2); (try clear hk); (try clear hi); (try clear ho0)))
             go_ret2
             exact ⟨_, by first | rfl | (simp [errW_none, errW_some] <;> rfl) | (simp [*, errW_none, errW_some] <;> rfl), by (with_reducible repeat (first | apply Kd.S_alloc | apply Kd.S_drewN | apply Kd.S_drew)); exact Kd.S_mono HO186.out (fun _ hk => trivial), by repeat (first | (with_reducible first | exact HB.out | apply below_alloc | apply pw_below_drewN | apply below_drew1) | exact HB.out)⟩
         ·
          rw [if_neg c36] at H
          exact absurd H (by simp)
        ·
         rw [if_neg c35] at H
         exact absurd H (by simp)
       ·
        rw [if_neg c34] at H
        exact absurd H (by simp)
      ·
       rw [if_neg c32] at H
       exact absurd H (by simp)
     ·
      rw [if_neg c31] at H
      exact absurd H (by simp)
    ·
     rw [if_neg c30] at H
     exact absurd H (by simp)
end Go.Proofs.Ytiimiogpiflkdaa.A
end

section
namespace Go.Proofs.Ytiimiogpiflkdaa.A
open Go.RowKit Go.Proofs.YtiimiogpiflkdaaW.PrintWords Go.Proofs.YtiimiogpiflkdaaW.PrintLast Go.Proofs.YtiimiogpiflkdaaW.PrintMore
attribute [local go_sem] max2_int min2_int max_two min_two max_three min_three max_four min_four   -- for this text's walks alone
set_option linter.unusedVariables false
set_option linter.unusedSimpArgs false
mutual
def spec_l19Draw.l0 : Nat → List (S61) → Int → List Int → Int → Int → Option ((List (S61)) × Int × Int)
  | 0, _, _, _, _, _ => none
  | k + 1, x3, x4, x1000, x1001, x1002 => (spec_l1Below.f x1000 x1001 x1002 5).bind fun bt436 => (if x4 ≤ (wrap64 (2 + bt436.1)) then ((spec_l1Below.f x1000 bt436.2.1 bt436.2.2 3).bind fun bt439 => (if x3.length < 2199023255552 then (spec_l19Draw.l0 k (x3 ++ [(⟨wrap64 (2 * x4), wrap64 (1 + bt439.1), 0, 0, 0, ([] : List Int)⟩ : S61)]) (wrap64 (x4 + 1)) x1000 bt439.2.1 bt439.2.2) else (none))) else ((spec_l1Below.f x1000 bt436.2.1 bt436.2.2 7).bind fun bt445 => (spec_l19Draw.l1 k x3 bt445.1 x1000 bt445.2.1 bt445.2.2)))
def spec_l19Draw.l1 : Nat → List (S61) → Int → List Int → Int → Int → Option ((List (S61)) × Int × Int)
  | 0, _, _, _, _, _ => none
  | k + 1, x3, x5, x1000, x1001, x1002 => if x5 > 0 then ((spec_l1Below.f x1000 x1001 x1002 6).bind fun bt448 => ((spec_l1Below.f x1000 bt448.2.1 bt448.2.2 6).bind fun bt451 => ((spec_l1Below.f x1000 bt451.2.1 bt451.2.2 2).bind fun bt454 => ((spec_l1Below.f x1000 bt454.2.1 bt454.2.2 20).bind fun bt457 => ((spec_l1Below.f x1000 bt457.2.1 bt457.2.2 20).bind fun bt460 => ((spec_AddResult.f k x3 (wrap64 (2 * (wrap64 (1 + bt448.1)))) (wrap64 (2 * (wrap64 (1 + bt451.1)))) (wrap64 (1 + bt454.1)) (wrap64 (60 + bt457.1)) (wrap64 (60 + bt460.1))).bind fun bt463 => (spec_l19Draw.l1 k bt463.1 (wrap64 (x5 - 1)) x1000 bt460.2.1 bt460.2.2))))))) else (some (x3, x1001, x1002))
end
def spec_l19Draw.f (k : Nat) (s0_0 : List Int) (s0_1 : Int) (s0_2 : Int) : Option ((List (S61)) × Int × Int) := spec_l19Draw.l0 k (([] : List (S61))) 1 s0_0 s0_1 s0_2
set_option maxHeartbeats 8000000 in
set_option maxRecDepth 100000 in
theorem spec_l19Draw.calls (k : Nat) (g : Nat) (s0_0 : List Int) (s0_1 : Int) (s0_2 : Int) (r1 : List (S61)) (r2 : Int) (r3 : Int) (w0 w : World) (hI : IsS91 w0 w g s0_0 s0_1 s0_2) (hB : Below w0.heap.size w0 w) (h : spec_l19Draw.f k s0_0 s0_1 s0_2 = some (r1, r2, r3)) :
  Calls Try.prog 90 #[.pointer (some ⟨g, 0, none⟩)] w fun e w' => ∃ v0_ : Value, e = .returned (v0_) ∧ Kd.S k61 61 w' w.heap.size (fun _ => True) v0_ r1 ∧ IsS91 w0 w' g s0_0 r2 r3 ∧ Below w0.heap.size w0 w' ∧ KeepBut w w' g none := by
 have hu61 := Try.underlying61
 have HI0 := Aside0.mk hI
 have HK := Aside0.mk (KeepBut.refl w g none)
 have HL := Aside0.mk hB.size
 clear hI
 have HW0 := Aside0.mk hB.size
 have HB := Aside0.mk hB
 clear hB
 have H : (spec_l19Draw.l0 k (([] : List (S61))) 1 s0_0 s0_1 s0_2) = some (r1, r2, r3) := h
 clear h
 obtain ⟨y433, hy433⟩ : ∃ y_ : List (S61), y_ = (([] : List (S61))) := ⟨_, rfl⟩
 replace H : (spec_l19Draw.l0 k y433 1 s0_0 s0_1 s0_2) = some (r1, r2, r3) := by first | (rw [hy433]; with_reducible exact H) | (have H2_ := (Option.bind_some _ _).symm.trans H; rw [hy433]; with_reducible exact H2_) | (have H2_ := (Option.bind_some _ _).symm.trans H; with_reducible exact H2_) | with_reducible exact H | (rw [hy433]; exact H) | exact H
 have Ny433 := Aside0.mk hy433
 clear hy433
 have H' := Aside0.mk H
 clear H
 go_enter Try.func90, Try.ntmps90
 go_wp2_with (first | ((with_reducible refine gate_dst (N := 6) rfl ?_); refine Kd.S_lit k61 _ 61 ?hg (N := 6) ?hd (xs := ([] : List (S61))) (inner := []) (ok := fun _ => True) (okp := fun _ => True) ?hr ?hp (fun _ hk => hk) trivial (Below.refl _ _) (Nat.le_refl _) (by simp) ?_; (case hd => rfl); (case hg => rfl); (case hr => first | (go_simp; done) | (go_simp; rfl)); (case hp => exact (Reps.none _ _)); intro v434 w2 ho3 hb hg_ hnew_; clear hg_ hnew_; (first | rw [← Ny433.out] at ho3 | (simp only [Int.reduceToNat] at ho3; rw [← Ny433.out] at ho3)); have n0_ := Aside0.mk (Kd.S_lower ho3 (keep_size (w := w) (g := g) (row := none) (by repeat (first | (with_reducible first | exact HK.out | apply KeepBut.set_ | apply keep_drewN | apply keep_drew | apply keep_alloc) | exact HK.out)))); have n1_ := Aside0.mk (IsS91.below (by repeat (first | (with_reducible first | exact HI0.out | apply IsS91.alloc | apply IsS91.drewN | apply IsS91.drew | apply IsS91.set_1 | apply IsS91.set_2) | exact HI0.out)) hb); have n2_ := Aside0.mk (KeepBut.trans (by repeat (first | (with_reducible first | exact HK.out | apply KeepBut.set_ | apply keep_drewN | apply keep_drew | apply keep_alloc) | exact HK.out)) (KeepBut.of_below hb g none) (.inl rfl)); have n3_ := Aside0.mk (below_step (by repeat (first | (with_reducible first | exact HB.out | apply below_alloc | apply pw_below_drewN | apply below_drew1 | refine below_set ?_ (IsS91.ge HI0.out)) | exact HB.out)) hb); clear HI0; clear HK; clear HB; have HO435 := n0_; have HI0 := n1_; have HK := n2_; have HB := n3_; clear n0_ n1_ n2_ n3_; clear hb ho3))
 go_loopg [3, 4] k (fun kq v3 v4 w' => ∃ (x3_1 : List (S61)) (x4_1 : Int) (x1001_1 : Int) (x1002_1 : Int), v4 = .int .i64 x4_1 ∧ Aside0 (spec_l19Draw.l0 kq x3_1 x4_1 s0_0 x1001_1 x1002_1 = some (r1, r2, r3)) ∧ Aside0 (kq ≤ k) ∧ Aside0 (Kd.S k61 61 w' w.heap.size (fun _ => True) v3 x3_1) ∧ Aside0 (IsS91 w0 w' g s0_0 x1001_1 x1002_1) ∧ Aside0 (KeepBut w w' g none) ∧ Aside0 (Below w0.heap.size w0 w'))
 case atStart => exact ⟨(y433), (1), (s0_1), (s0_2), (by first | rfl | (simp; done) | (simp [*]; done)), H', ⟨Nat.le_refl _⟩, ⟨by (with_reducible repeat (first | apply Kd.S_alloc | apply Kd.S_drewN | apply Kd.S_drew)); exact HO435.out⟩, ⟨by repeat (first | (with_reducible first | exact HI0.out | apply IsS91.alloc | apply IsS91.drewN | apply IsS91.drew | apply IsS91.set_1 | apply IsS91.set_2) | exact HI0.out)⟩, ⟨by repeat (first | (with_reducible first | exact HK.out | apply KeepBut.set_ | apply keep_drewN | apply keep_drew | apply keep_alloc) | exact HK.out)⟩, ⟨by repeat (first | (with_reducible first | exact HB.out | apply below_alloc | apply pw_below_drewN | apply below_drew1 | refine below_set ?_ (IsS91.ge HI0.out)) | exact HB.out)⟩⟩
 case round =>
  clear H'
  try clear p2
  obtain ⟨x3_1, x4_1, x1001_1, x1002_1, rfl, HA, HK1, HO_3, HI0, HK, HB⟩ := hrel
  cases gk with
  | zero => exact absurd HA.out (by simp [spec_l19Draw.l0])
  | succ k1 =>
   have H := HA.out
   clear HA
   simp only [spec_l19Draw.l0] at H
   replace H := Option.bind_eq_some_iff.mp H
   obtain ⟨⟨t436, t437, t438⟩, A40, H⟩ := H
   replace H : (if x4_1 ≤ (wrap64 (2 + t436)) then ((spec_l1Below.f s0_0 t437 t438 3).bind fun bt439 => (if x3_1.length < 2199023255552 then (spec_l19Draw.l0 k1 (x3_1 ++ [(⟨wrap64 (2 * x4_1), wrap64 (1 + bt439.1), 0, 0, 0, ([] : List Int)⟩ : S61)]) (wrap64 (x4_1 + 1)) s0_0 bt439.2.1 bt439.2.2) else (none))) else ((spec_l1Below.f s0_0 t437 t438 7).bind fun bt445 => (spec_l19Draw.l1 k1 x3_1 bt445.1 s0_0 bt445.2.1 bt445.2.2))) = some (r1, r2, r3) := H
   have A4 := Aside0.mk A40
   clear A40
   by_cases c5 : x4_1 ≤ (wrap64 (2 + t436))
   ·
    rw [if_pos c5] at H
    have c5b0 : decide (x4_1 ≤ (wrap64 (2 + t436))) = true := decide_eq_true c5
    clear c5
    replace H := Option.bind_eq_some_iff.mp H
    obtain ⟨⟨t439, t440, t441⟩, A60, H⟩ := H
    replace H : (if x3_1.length < 2199023255552 then (spec_l19Draw.l0 k1 (x3_1 ++ [(⟨wrap64 (2 * x4_1), wrap64 (1 + t439), 0, 0, 0, ([] : List Int)⟩ : S61)]) (wrap64 (x4_1 + 1)) s0_0 t440 t441) else (none)) = some (r1, r2, r3) := H
    have A6 := Aside0.mk A60
    clear A60
    by_cases c7 : x3_1.length < 2199023255552
    ·
     rw [if_pos c7] at H
     have LMc7 := Aside0.mk c7
     clear c7
     obtain ⟨y442, hy442⟩ : ∃ y_ : List (S61), y_ = (x3_1 ++ [(⟨wrap64 (2 * x4_1), wrap64 (1 + t439), 0, 0, 0, ([] : List Int)⟩ : S61)]) := ⟨_, rfl⟩
     replace H : (spec_l19Draw.l0 k1 y442 (wrap64 (x4_1 + 1)) s0_0 t440 t441) = some (r1, r2, r3) := by first | (rw [hy442]; with_reducible exact H) | (have H2_ := (Option.bind_some _ _).symm.trans H; rw [hy442]; with_reducible exact H2_) | (have H2_ := (Option.bind_some _ _).symm.trans H; with_reducible exact H2_) | with_reducible exact H | (rw [hy442]; exact H) | exact H
     have Ny442 := Aside0.mk hy442
     clear hy442
     have H' := Aside0.mk H
     clear H
     go_wp2_with (first | ((with_reducible refine gate_callee (f := 80) rfl ?_); refine goesL_ (some 9) rfl rfl Try.func80 (by kernel_rfl) rfl #[.pointer (some ⟨g, 0, none⟩), .int .i64 5] rfl (by (try simp only [List.map_toArray, List.map_cons, List.map_nil]); first | done | rfl | (simp only [List.length_drop, List.length_take]; rfl)) ?_; (with_reducible refine (spec_l1Below.calls g s0_0 x1001_1 x1002_1 5 t436 t437 t438 w0 _ ?side1 ?side2 A4.out).mono ?_); (case side1 => repeat (first | (with_reducible first | exact HI0.out | apply IsS91.alloc | apply IsS91.drewN | apply IsS91.drew | apply IsS91.set_1 | apply IsS91.set_2) | exact HI0.out)); (case side2 => repeat (first | (with_reducible first | exact HB.out | apply below_alloc | apply pw_below_drewN | apply below_drew1 | refine below_set ?_ (IsS91.ge HI0.out)) | exact HB.out)); rintro e w8 ⟨rfl, hi, hb, hk⟩; refine ⟨_, rfl, ?_⟩; have n0_ := Aside0.mk (Kd.S_mono (Kd.S_keep (IsS91.apartS (show IsS91 w0 _ g s0_0 x1001_1 x1002_1 from by repeat (first | (with_reducible first | exact HI0.out | apply IsS91.alloc | apply IsS91.drewN | apply IsS91.drew | apply IsS91.set_1 | apply IsS91.set_2) | exact HI0.out)) (by (with_reducible repeat (first | apply Kd.S_alloc | apply Kd.S_drewN | apply Kd.S_drew)); exact HO_3.out) (by decide)) hk (fun _ h => h.2)) (fun _ h => h.1)); have n1_ := Aside0.mk (KeepBut.trans (by repeat (first | (with_reducible first | exact HK.out | apply KeepBut.set_ | apply keep_drewN | apply keep_drew | apply keep_alloc) | exact HK.out)) hk (.inl rfl)); have n2_ := Aside0.mk (hb); have n3_ := Aside0.mk (hi); clear HO_3; clear HK; clear HB; clear HI0; have HO_3 := n0_; have HK := n1_; have HB := n2_; have HI0 := n3_; clear n0_ n1_ n2_ n3_; (try clear hb); (try clear hb2); (try clear hk); (try clear hi)) | ((with_reducible refine gate_callee (f := 80) rfl ?_); refine goesL_ (some 18) rfl rfl Try.func80 (by kernel_rfl) rfl #[.pointer (some ⟨g, 0, none⟩), .int .i64 3] rfl (by (try simp only [List.map_toArray, List.map_cons, List.map_nil]); first | done | rfl | (simp only [List.length_drop, List.length_take]; rfl)) ?_; (with_reducible refine (spec_l1Below.calls g s0_0 t437 t438 3 t439 t440 t441 w0 _ ?side1 ?side2 A6.out).mono ?_); (case side1 => repeat (first | (with_reducible first | exact HI0.out | apply IsS91.alloc | apply IsS91.drewN | apply IsS91.drew | apply IsS91.set_1 | apply IsS91.set_2) | exact HI0.out)); (case side2 => repeat (first | (with_reducible first | exact HB.out | apply below_alloc | apply pw_below_drewN | apply below_drew1 | refine below_set ?_ (IsS91.ge HI0.out)) | exact HB.out)); rintro e w9 ⟨rfl, hi, hb, hk⟩; refine ⟨_, rfl, ?_⟩; have n0_ := Aside0.mk (Kd.S_mono (Kd.S_keep (IsS91.apartS (show IsS91 w0 _ g s0_0 t437 t438 from by repeat (first | (with_reducible first | exact HI0.out | apply IsS91.alloc | apply IsS91.drewN | apply IsS91.drew | apply IsS91.set_1 | apply IsS91.set_2) | exact HI0.out)) (by (with_reducible repeat (first | apply Kd.S_alloc | apply Kd.S_drewN | apply Kd.S_drew)); exact HO_3.out) (by decide)) hk (fun _ h => h.2)) (fun _ h => h.1)); have n1_ := Aside0.mk (KeepBut.trans (by repeat (first | (with_reducible first | exact HK.out | apply KeepBut.set_ | apply keep_drewN | apply keep_drew | apply keep_alloc) | exact HK.out)) hk (.inl rfl)); have n2_ := Aside0.mk (hb); have n3_ := Aside0.mk (hi); clear HO_3; clear HK; clear HB; clear HI0; have HO_3 := n0_; have HK := n1_; have HB := n2_; have HI0 := n3_; clear n0_ n1_ n2_ n3_; (try clear hb); (try clear hb2); (try clear hk); (try clear hi)) | ((with_reducible refine gate_builtin (b := .append) (xs := #[.tmp 14, .tmp 21]) rfl ?_); at_builtin; refine Kd.S_append k61 w.heap.size rfl (.tmp 14) (.tmp 21) 25 61 (.agg #[(.int .i64 0), (.int .i64 0), (.int .i64 0), (.int .i64 0), (.int .i64 0), (.slice none 0 0)]) 64 rfl Try.underlying25 info61 rfl (by decide) (by omega) u3 x3_1 (⟨wrap64 (2 * x4_1), wrap64 (1 + t439), 0, 0, 0, ([] : List Int)⟩ : S61) [.int .i64 (wrap64 (2 * x4_1)), .int .i64 (wrap64 (1 + t439)), .int .i64 0, .int .i64 0, .int .i64 0, .slice none 0 0] (fun _ => True) (fun _ => False) rfl rfl ?aP (fun k_ hk_ => hk_.elim) ?aF ?aO (Below.refl _ _) ?aS ?aL ?_; (case aP => exact k61_mkM _ _ _ (⟨wrap64 (2 * x4_1), wrap64 (1 + t439), 0, 0, 0, ([] : List Int)⟩ : S61) (Kd.R_nil _ _ _ _ _)); (case aF => exact (fun _ _ => trivial)); (case aO => exact (by (with_reducible repeat (first | apply Kd.S_alloc | apply Kd.S_drewN | apply Kd.S_drew)); exact Kd.S_mono HO_3.out (fun k_ hk => ⟨trivial, fun e_ => e_⟩))); (case aS => exact (keep_size (w := w) (g := g) (row := none) (by repeat (first | (with_reducible first | exact HK.out | apply KeepBut.set_ | apply keep_drewN | apply keep_drew | apply keep_alloc) | exact HK.out)))); (case aL => have := LMc7.out; omega); intro v443 w10 ho hb hg hat; rw [← Ny442.out] at ho; have n0_ := Aside0.mk (IsS91.grown (by repeat (first | (with_reducible first | exact HI0.out | apply IsS91.alloc | apply IsS91.drewN | apply IsS91.drew | apply IsS91.set_1 | apply IsS91.set_2) | exact HI0.out)) hg (IsS91.own_neS HI0.out HO_3.out (by decide))); have n1_ := Aside0.mk (below_weaken (by repeat (first | (with_reducible first | exact HB.out | apply below_alloc | apply pw_below_drewN | apply below_drew1 | refine below_set ?_ (IsS91.ge HI0.out)) | exact HB.out)) HL.out hb); have n2_ := Aside0.mk (KeepBut.trans (by repeat (first | (with_reducible first | exact HK.out | apply KeepBut.set_ | apply keep_drewN | apply keep_drew | apply keep_alloc) | exact HK.out)) (KeepBut.of_grown hg g) (Kd.S_base2 HO_3.out)); have n3_ := Aside0.mk (ho); clear HI0; clear HB; clear HK; clear HO_3; have HI0 := n0_; have HB := n1_; have HK := n2_; have HO444 := n3_; clear n0_ n1_ n2_ n3_; clear ho hb hg hat))
     go_roundg k1
     case measure => have := HK1.out; omega
     case rel => exact ⟨(y442), (wrap64 (x4_1 + 1)), (t440), (t441), (by first | rfl | (simp; done) | (simp [*]; done)), H', ⟨by have := HK1.out; omega⟩, ⟨by (with_reducible repeat (first | apply Kd.S_alloc | apply Kd.S_drewN | apply Kd.S_drew)); exact HO444.out⟩, ⟨by repeat (first | (with_reducible first | exact HI0.out | apply IsS91.alloc | apply IsS91.drewN | apply IsS91.drew | apply IsS91.set_1 | apply IsS91.set_2) | exact HI0.out)⟩, ⟨by repeat (first | (with_reducible first | exact HK.out | apply KeepBut.set_ | apply keep_drewN | apply keep_drew | apply keep_alloc) | exact HK.out)⟩, ⟨by repeat (first | (with_reducible first | exact HB.out | apply below_alloc | apply pw_below_drewN | apply below_drew1 | refine below_set ?_ (IsS91.ge HI0.out)) | exact HB.out)⟩⟩
    ·
     rw [if_neg c7] at H
     exact absurd H (by simp)
   ·
    rw [if_neg c5] at H
    have c5b0 : decide (x4_1 ≤ (wrap64 (2 + t436))) = false := decide_eq_false c5
    clear c5
    replace H := Option.bind_eq_some_iff.mp H
    obtain ⟨⟨t445, t446, t447⟩, A110, H⟩ := H
    replace H : (spec_l19Draw.l1 k1 x3_1 t445 s0_0 t446 t447) = some (r1, r2, r3) := H
    have A11 := Aside0.mk A110
    clear A110
    have H' := Aside0.mk H
    clear H
    go_wp2_with (first | ((with_reducible refine gate_callee (f := 80) rfl ?_); refine goesL_ (some 9) rfl rfl Try.func80 (by kernel_rfl) rfl #[.pointer (some ⟨g, 0, none⟩), .int .i64 5] rfl (by (try simp only [List.map_toArray, List.map_cons, List.map_nil]); first | done | rfl | (simp only [List.length_drop, List.length_take]; rfl)) ?_; (with_reducible refine (spec_l1Below.calls g s0_0 x1001_1 x1002_1 5 t436 t437 t438 w0 _ ?side1 ?side2 A4.out).mono ?_); (case side1 => repeat (first | (with_reducible first | exact HI0.out | apply IsS91.alloc | apply IsS91.drewN | apply IsS91.drew | apply IsS91.set_1 | apply IsS91.set_2) | exact HI0.out)); (case side2 => repeat (first | (with_reducible first | exact HB.out | apply below_alloc | apply pw_below_drewN | apply below_drew1 | refine below_set ?_ (IsS91.ge HI0.out)) | exact HB.out)); rintro e w12 ⟨rfl, hi, hb, hk⟩; refine ⟨_, rfl, ?_⟩; have n0_ := Aside0.mk (Kd.S_mono (Kd.S_keep (IsS91.apartS (show IsS91 w0 _ g s0_0 x1001_1 x1002_1 from by repeat (first | (with_reducible first | exact HI0.out | apply IsS91.alloc | apply IsS91.drewN | apply IsS91.drew | apply IsS91.set_1 | apply IsS91.set_2) | exact HI0.out)) (by (with_reducible repeat (first | apply Kd.S_alloc | apply Kd.S_drewN | apply Kd.S_drew)); exact HO_3.out) (by decide)) hk (fun _ h => h.2)) (fun _ h => h.1)); have n1_ := Aside0.mk (KeepBut.trans (by repeat (first | (with_reducible first | exact HK.out | apply KeepBut.set_ | apply keep_drewN | apply keep_drew | apply keep_alloc) | exact HK.out)) hk (.inl rfl)); have n2_ := Aside0.mk (hb); have n3_ := Aside0.mk (hi); clear HO_3; clear HK; clear HB; clear HI0; have HO_3 := n0_; have HK := n1_; have HB := n2_; have HI0 := n3_; clear n0_ n1_ n2_ n3_; (try clear hb); (try clear hb2); (try clear hk); (try clear hi)) | ((with_reducible refine gate_callee (f := 80) rfl ?_); refine goesL_ (some 24) rfl rfl Try.func80 (by kernel_rfl) rfl #[.pointer (some ⟨g, 0, none⟩), .int .i64 7] rfl (by (try simp only [List.map_toArray, List.map_cons, List.map_nil]); first | done | rfl | (simp only [List.length_drop, List.length_take]; rfl)) ?_; (with_reducible refine (spec_l1Below.calls g s0_0 t437 t438 7 t445 t446 t447 w0 _ ?side1 ?side2 A11.out).mono ?_); (case side1 => repeat (first | (with_reducible first | exact HI0.out | apply IsS91.alloc | apply IsS91.drewN | apply IsS91.drew | apply IsS91.set_1 | apply IsS91.set_2) | exact HI0.out)); (case side2 => repeat (first | (with_reducible first | exact HB.out | apply below_alloc | apply pw_below_drewN | apply below_drew1 | refine below_set ?_ (IsS91.ge HI0.out)) | exact HB.out)); rintro e w13 ⟨rfl, hi, hb, hk⟩; refine ⟨_, rfl, ?_⟩; have n0_ := Aside0.mk (Kd.S_mono (Kd.S_keep (IsS91.apartS (show IsS91 w0 _ g s0_0 t437 t438 from by repeat (first | (with_reducible first | exact HI0.out | apply IsS91.alloc | apply IsS91.drewN | apply IsS91.drew | apply IsS91.set_1 | apply IsS91.set_2) | exact HI0.out)) (by (with_reducible repeat (first | apply Kd.S_alloc | apply Kd.S_drewN | apply Kd.S_drew)); exact HO_3.out) (by decide)) hk (fun _ h => h.2)) (fun _ h => h.1)); have n1_ := Aside0.mk (KeepBut.trans (by repeat (first | (with_reducible first | exact HK.out | apply KeepBut.set_ | apply keep_drewN | apply keep_drew | apply keep_alloc) | exact HK.out)) hk (.inl rfl)); have n2_ := Aside0.mk (hb); have n3_ := Aside0.mk (hi); clear HO_3; clear HK; clear HB; clear HI0; have HO_3 := n0_; have HK := n1_; have HB := n2_; have HI0 := n3_; clear n0_ n1_ n2_ n3_; (try clear hb); (try clear hb2); (try clear hk); (try clear hi)))
    go_loopg [3, 5] k1 (fun kq v3 v5 w' => ∃ (x3_2 : List (S61)) (x5_2 : Int) (x1001_2 : Int) (x1002_2 : Int), v5 = .int .i64 x5_2 ∧ Aside0 (spec_l19Draw.l1 kq x3_2 x5_2 s0_0 x1001_2 x1002_2 = some (r1, r2, r3)) ∧ Aside0 (kq ≤ k1) ∧ Aside0 (Kd.S k61 61 w' w.heap.size (fun _ => True) v3 x3_2) ∧ Aside0 (IsS91 w0 w' g s0_0 x1001_2 x1002_2) ∧ Aside0 (KeepBut w w' g none) ∧ Aside0 (Below w0.heap.size w0 w'))
    case atStart => exact ⟨(x3_1), (t445), (t446), (t447), (by first | rfl | (simp; done) | (simp [*]; done)), H', ⟨Nat.le_refl _⟩, ⟨by (with_reducible repeat (first | apply Kd.S_alloc | apply Kd.S_drewN | apply Kd.S_drew)); exact HO_3.out⟩, ⟨by repeat (first | (with_reducible first | exact HI0.out | apply IsS91.alloc | apply IsS91.drewN | apply IsS91.drew | apply IsS91.set_1 | apply IsS91.set_2) | exact HI0.out)⟩, ⟨by repeat (first | (with_reducible first | exact HK.out | apply KeepBut.set_ | apply keep_drewN | apply keep_drew | apply keep_alloc) | exact HK.out)⟩, ⟨by repeat (first | (with_reducible first | exact HB.out | apply below_alloc | apply pw_below_drewN | apply below_drew1 | refine below_set ?_ (IsS91.ge HI0.out)) | exact HB.out)⟩⟩
    case round =>
     clear H'
     try clear p2
     try clear c5
     try clear c5b0
     try clear p6
     try clear c7
     try clear c8
     try clear c9
     try clear p2
     obtain ⟨x3_2, x5_2, x1001_2, x1002_2, rfl, HA, HK2, HO_3, HI0, HK, HB⟩ := hrel
     cases gk with
     | zero => exact absurd HA.out (by simp [spec_l19Draw.l1])
     | succ k2 =>
      have H := HA.out
      clear HA
      simp only [spec_l19Draw.l1] at H
      by_cases c14 : x5_2 > 0
      ·
       rw [if_pos c14] at H
       have c14b0 : decide (0 < x5_2) = true := decide_eq_true c14
       clear c14
       replace H := Option.bind_eq_some_iff.mp H
       obtain ⟨⟨t448, t449, t450⟩, A150, H⟩ := H
       replace H : ((spec_l1Below.f s0_0 t449 t450 6).bind fun bt451 => ((spec_l1Below.f s0_0 bt451.2.1 bt451.2.2 2).bind fun bt454 => ((spec_l1Below.f s0_0 bt454.2.1 bt454.2.2 20).bind fun bt457 => ((spec_l1Below.f s0_0 bt457.2.1 bt457.2.2 20).bind fun bt460 => ((spec_AddResult.f k2 x3_2 (wrap64 (2 * (wrap64 (1 + t448)))) (wrap64 (2 * (wrap64 (1 + bt451.1)))) (wrap64 (1 + bt454.1)) (wrap64 (60 + bt457.1)) (wrap64 (60 + bt460.1))).bind fun bt463 => (spec_l19Draw.l1 k2 bt463.1 (wrap64 (x5_2 - 1)) s0_0 bt460.2.1 bt460.2.2)))))) = some (r1, r2, r3) := H
       have A15 := Aside0.mk A150
       clear A150
       replace H := Option.bind_eq_some_iff.mp H
       obtain ⟨⟨t451, t452, t453⟩, A160, H⟩ := H
       replace H : ((spec_l1Below.f s0_0 t452 t453 2).bind fun bt454 => ((spec_l1Below.f s0_0 bt454.2.1 bt454.2.2 20).bind fun bt457 => ((spec_l1Below.f s0_0 bt457.2.1 bt457.2.2 20).bind fun bt460 => ((spec_AddResult.f k2 x3_2 (wrap64 (2 * (wrap64 (1 + t448)))) (wrap64 (2 * (wrap64 (1 + t451)))) (wrap64 (1 + bt454.1)) (wrap64 (60 + bt457.1)) (wrap64 (60 + bt460.1))).bind fun bt463 => (spec_l19Draw.l1 k2 bt463.1 (wrap64 (x5_2 - 1)) s0_0 bt460.2.1 bt460.2.2))))) = some (r1, r2, r3) := H
       have A16 := Aside0.mk A160
       clear A160
       replace H := Option.bind_eq_some_iff.mp H
       obtain ⟨⟨t454, t455, t456⟩, A170, H⟩ := H
       replace H : ((spec_l1Below.f s0_0 t455 t456 20).bind fun bt457 => ((spec_l1Below.f s0_0 bt457.2.1 bt457.2.2 20).bind fun bt460 => ((spec_AddResult.f k2 x3_2 (wrap64 (2 * (wrap64 (1 + t448)))) (wrap64 (2 * (wrap64 (1 + t451)))) (wrap64 (1 + t454)) (wrap64 (60 + bt457.1)) (wrap64 (60 + bt460.1))).bind fun bt463 => (spec_l19Draw.l1 k2 bt463.1 (wrap64 (x5_2 - 1)) s0_0 bt460.2.1 bt460.2.2)))) = some (r1, r2, r3) := H
       have A17 := Aside0.mk A170
       clear A170
       replace H := Option.bind_eq_some_iff.mp H
       obtain ⟨⟨t457, t458, t459⟩, A180, H⟩ := H
       replace H : ((spec_l1Below.f s0_0 t458 t459 20).bind fun bt460 => ((spec_AddResult.f k2 x3_2 (wrap64 (2 * (wrap64 (1 + t448)))) (wrap64 (2 * (wrap64 (1 + t451)))) (wrap64 (1 + t454)) (wrap64 (60 + t457)) (wrap64 (60 + bt460.1))).bind fun bt463 => (spec_l19Draw.l1 k2 bt463.1 (wrap64 (x5_2 - 1)) s0_0 bt460.2.1 bt460.2.2))) = some (r1, r2, r3) := H
       have A18 := Aside0.mk A180
       clear A180
       replace H := Option.bind_eq_some_iff.mp H
       obtain ⟨⟨t460, t461, t462⟩, A190, H⟩ := H
       replace H : ((spec_AddResult.f k2 x3_2 (wrap64 (2 * (wrap64 (1 + t448)))) (wrap64 (2 * (wrap64 (1 + t451)))) (wrap64 (1 + t454)) (wrap64 (60 + t457)) (wrap64 (60 + t460))).bind fun bt463 => (spec_l19Draw.l1 k2 bt463.1 (wrap64 (x5_2 - 1)) s0_0 t461 t462)) = some (r1, r2, r3) := H
       have A19 := Aside0.mk A190
       clear A190
       replace H := Option.bind_eq_some_iff.mp H
       obtain ⟨⟨t463, t464⟩, A200, H⟩ := H
       replace H : (spec_l19Draw.l1 k2 t463 (wrap64 (x5_2 - 1)) s0_0 t461 t462) = some (r1, r2, r3) := H
       have A20 := Aside0.mk A200
       clear A200
       have H' := Aside0.mk H
       clear H
       go_wp2_with (first | ((with_reducible refine gate_callee (f := 80) rfl ?_); refine goesL_ (some 32) rfl rfl Try.func80 (by kernel_rfl) rfl #[.pointer (some ⟨g, 0, none⟩), .int .i64 6] rfl (by (try simp only [List.map_toArray, List.map_cons, List.map_nil]); first | done | rfl | (simp only [List.length_drop, List.length_take]; rfl)) ?_; (with_reducible refine (spec_l1Below.calls g s0_0 x1001_2 x1002_2 6 t448 t449 t450 w0 _ ?side1 ?side2 A15.out).mono ?_); (case side1 => repeat (first | (with_reducible first | exact HI0.out | apply IsS91.alloc | apply IsS91.drewN | apply IsS91.drew | apply IsS91.set_1 | apply IsS91.set_2) | exact HI0.out)); (case side2 => repeat (first | (with_reducible first | exact HB.out | apply below_alloc | apply pw_below_drewN | apply below_drew1 | refine below_set ?_ (IsS91.ge HI0.out)) | exact HB.out)); rintro e w21 ⟨rfl, hi, hb, hk⟩; refine ⟨_, rfl, ?_⟩; have n0_ := Aside0.mk (Kd.S_mono (Kd.S_keep (IsS91.apartS (show IsS91 w0 _ g s0_0 x1001_2 x1002_2 from by repeat (first | (with_reducible first | exact HI0.out | apply IsS91.alloc | apply IsS91.drewN | apply IsS91.drew | apply IsS91.set_1 | apply IsS91.set_2) | exact HI0.out)) (by (with_reducible repeat (first | apply Kd.S_alloc | apply Kd.S_drewN | apply Kd.S_drew)); exact HO_3.out) (by decide)) hk (fun _ h => h.2)) (fun _ h => h.1)); have n1_ := Aside0.mk (KeepBut.trans (by repeat (first | (with_reducible first | exact HK.out | apply KeepBut.set_ | apply keep_drewN | apply keep_drew | apply keep_alloc) | exact HK.out)) hk (.inl rfl)); have n2_ := Aside0.mk (hb); have n3_ := Aside0.mk (hi); clear HO_3; clear HK; clear HB; clear HI0; have HO_3 := n0_; have HK := n1_; have HB := n2_; have HI0 := n3_; clear n0_ n1_ n2_ n3_; (try clear hb); (try clear hb2); (try clear hk); (try clear hi)) | ((with_reducible refine gate_callee (f := 80) rfl ?_); refine goesL_ (some 36) rfl rfl Try.func80 (by kernel_rfl) rfl #[.pointer (some ⟨g, 0, none⟩), .int .i64 6] rfl (by (try simp only [List.map_toArray, List.map_cons, List.map_nil]); first | done | rfl | (simp only [List.length_drop, List.length_take]; rfl)) ?_; (with_reducible refine (spec_l1Below.calls g s0_0 t449 t450 6 t451 t452 t453 w0 _ ?side1 ?side2 A16.out).mono ?_); (case side1 => repeat (first | (with_reducible first | exact HI0.out | apply IsS91.alloc | apply IsS91.drewN | apply IsS91.drew | apply IsS91.set_1 | apply IsS91.set_2) | exact HI0.out)); (case side2 => repeat (first | (with_reducible first | exact HB.out | apply below_alloc | apply pw_below_drewN | apply below_drew1 | refine below_set ?_ (IsS91.ge HI0.out)) | exact HB.out)); rintro e w22 ⟨rfl, hi, hb, hk⟩; refine ⟨_, rfl, ?_⟩; have n0_ := Aside0.mk (Kd.S_mono (Kd.S_keep (IsS91.apartS (show IsS91 w0 _ g s0_0 t449 t450 from by repeat (first | (with_reducible first | exact HI0.out | apply IsS91.alloc | apply IsS91.drewN | apply IsS91.drew | apply IsS91.set_1 | apply IsS91.set_2) | exact HI0.out)) (by (with_reducible repeat (first | apply Kd.S_alloc | apply Kd.S_drewN | apply Kd.S_drew)); exact HO_3.out) (by decide)) hk (fun _ h => h.2)) (fun _ h => h.1)); have n1_ := Aside0.mk (KeepBut.trans (by repeat (first | (with_reducible first | exact HK.out | apply KeepBut.set_ | apply keep_drewN | apply keep_drew | apply keep_alloc) | exact HK.out)) hk (.inl rfl)); have n2_ := Aside0.mk (hb); have n3_ := Aside0.mk (hi); clear HO_3; clear HK; clear HB; clear HI0; have HO_3 := n0_; have HK := n1_; have HB := n2_; have HI0 := n3_; clear n0_ n1_ n2_ n3_; (try clear hb); (try clear hb2); (try clear hk); (try clear hi)) | ((with_reducible refine gate_callee (f := 80) rfl ?_); refine goesL_ (some 40) rfl rfl Try.func80 (by kernel_rfl) rfl #[.pointer (some ⟨g, 0, none⟩), .int .i64 2] rfl (by (try simp only [List.map_toArray, List.map_cons, List.map_nil]); first | done | rfl | (simp only [List.length_drop, List.length_take]; rfl)) ?_; (with_reducible refine (spec_l1Below.calls g s0_0 t452 t453 2 t454 t455 t456 w0 _ ?side1 ?side2 A17.out).mono ?_); (case side1 => repeat (first | (with_reducible first | exact HI0.out | apply IsS91.alloc | apply IsS91.drewN | apply IsS91.drew | apply IsS91.set_1 | apply IsS91.set_2) | exact HI0.out)); (case side2 => repeat (first | (with_reducible first | exact HB.out | apply below_alloc | apply pw_below_drewN | apply below_drew1 | refine below_set ?_ (IsS91.ge HI0.out)) | exact HB.out)); rintro e w23 ⟨rfl, hi, hb, hk⟩; refine ⟨_, rfl, ?_⟩; have n0_ := Aside0.mk (Kd.S_mono (Kd.S_keep (IsS91.apartS (show IsS91 w0 _ g s0_0 t452 t453 from by repeat (first | (with_reducible first | exact HI0.out | apply IsS91.alloc | apply IsS91.drewN | apply IsS91.drew | apply IsS91.set_1 | apply IsS91.set_2) | exact HI0.out)) (by (with_reducible repeat (first | apply Kd.S_alloc | apply Kd.S_drewN | apply Kd.S_drew)); exact HO_3.out) (by decide)) hk (fun _ h => h.2)) (fun _ h => h.1)); have n1_ := Aside0.mk (KeepBut.trans (by repeat (first | (with_reducible first | exact HK.out | apply KeepBut.set_ | apply keep_drewN | apply keep_drew | apply keep_alloc) | exact HK.out)) hk (.inl rfl)); have n2_ := Aside0.mk (hb); have n3_ := Aside0.mk (hi); clear HO_3; clear HK; clear HB; clear HI0; have HO_3 := n0_; have HK := n1_; have HB := n2_; have HI0 := n3_; clear n0_ n1_ n2_ n3_; (try clear hb); (try clear hb2); (try clear hk); (try clear hi)) | ((with_reducible refine gate_callee (f := 80) rfl ?_); refine goesL_ (some 43) rfl rfl Try.func80 (by kernel_rfl) rfl #[.pointer (some ⟨g, 0, none⟩), .int .i64 20] rfl (by (try simp only [List.map_toArray, List.map_cons, List.map_nil]); first | done | rfl | (simp only [List.length_drop, List.length_take]; rfl)) ?_; (with_reducible refine (spec_l1Below.calls g s0_0 t455 t456 20 t457 t458 t459 w0 _ ?side1 ?side2 A18.out).mono ?_); (case side1 => repeat (first | (with_reducible first | exact HI0.out | apply IsS91.alloc | apply IsS91.drewN | apply IsS91.drew | apply IsS91.set_1 | apply IsS91.set_2) | exact HI0.out)); (case side2 => repeat (first | (with_reducible first | exact HB.out | apply below_alloc | apply pw_below_drewN | apply below_drew1 | refine below_set ?_ (IsS91.ge HI0.out)) | exact HB.out)); rintro e w24 ⟨rfl, hi, hb, hk⟩; refine ⟨_, rfl, ?_⟩; have n0_ := Aside0.mk (Kd.S_mono (Kd.S_keep (IsS91.apartS (show IsS91 w0 _ g s0_0 t455 t456 from by repeat (first | (with_reducible first | exact HI0.out | apply IsS91.alloc | apply IsS91.drewN | apply IsS91.drew | apply IsS91.set_1 | apply IsS91.set_2) | exact HI0.out)) (by (with_reducible repeat (first | apply Kd.S_alloc | apply Kd.S_drewN | apply Kd.S_drew)); exact HO_3.out) (by decide)) hk (fun _ h => h.2)) (fun _ h => h.1)); have n1_ := Aside0.mk (KeepBut.trans (by repeat (first | (with_reducible first | exact HK.out | apply KeepBut.set_ | apply keep_drewN | apply keep_drew | apply keep_alloc) | exact HK.out)) hk (.inl rfl)); have n2_ := Aside0.mk (hb); have n3_ := Aside0.mk (hi); clear HO_3; clear HK; clear HB; clear HI0; have HO_3 := n0_; have HK := n1_; have HB := n2_; have HI0 := n3_; clear n0_ n1_ n2_ n3_; (try clear hb); (try clear hb2); (try clear hk); (try clear hi)) | ((with_reducible refine gate_callee (f := 80) rfl ?_); refine goesL_ (some 46) rfl rfl Try.func80 (by kernel_rfl) rfl #[.pointer (some ⟨g, 0, none⟩), .int .i64 20] rfl (by (try simp only [List.map_toArray, List.map_cons, List.map_nil]); first | done | rfl | (simp only [List.length_drop, List.length_take]; rfl)) ?_; (with_reducible refine (spec_l1Below.calls g s0_0 t458 t459 20 t460 t461 t462 w0 _ ?side1 ?side2 A19.out).mono ?_); (case side1 => repeat (first | (with_reducible first | exact HI0.out | apply IsS91.alloc | apply IsS91.drewN | apply IsS91.drew | apply IsS91.set_1 | apply IsS91.set_2) | exact HI0.out)); (case side2 => repeat (first | (with_reducible first | exact HB.out | apply below_alloc | apply pw_below_drewN | apply below_drew1 | refine below_set ?_ (IsS91.ge HI0.out)) | exact HB.out)); rintro e w25 ⟨rfl, hi, hb, hk⟩; refine ⟨_, rfl, ?_⟩; have n0_ := Aside0.mk (Kd.S_mono (Kd.S_keep (IsS91.apartS (show IsS91 w0 _ g s0_0 t458 t459 from by repeat (first | (with_reducible first | exact HI0.out | apply IsS91.alloc | apply IsS91.drewN | apply IsS91.drew | apply IsS91.set_1 | apply IsS91.set_2) | exact HI0.out)) (by (with_reducible repeat (first | apply Kd.S_alloc | apply Kd.S_drewN | apply Kd.S_drew)); exact HO_3.out) (by decide)) hk (fun _ h => h.2)) (fun _ h => h.1)); have n1_ := Aside0.mk (KeepBut.trans (by repeat (first | (with_reducible first | exact HK.out | apply KeepBut.set_ | apply keep_drewN | apply keep_drew | apply keep_alloc) | exact HK.out)) hk (.inl rfl)); have n2_ := Aside0.mk (hb); have n3_ := Aside0.mk (hi); clear HO_3; clear HK; clear HB; clear HI0; have HO_3 := n0_; have HK := n1_; have HB := n2_; have HI0 := n3_; clear n0_ n1_ n2_ n3_; (try clear hb); (try clear hb2); (try clear hk); (try clear hi); obtain ⟨Ao26, co26, eo26⟩ := Kd.S_slice HO_3.out; subst eo26) | ((with_reducible refine gate_callee (f := 42) rfl ?_); refine goesL_ (some 48) rfl rfl Try.func42 (by kernel_rfl) rfl #[.slice Ao26 x3_2.length co26, .int .i64 (wrap64 (2 * (wrap64 (1 + t448)))), .int .i64 (wrap64 (2 * (wrap64 (1 + t451)))), .int .i64 (wrap64 (1 + t454)), .int .i64 (wrap64 (60 + t457)), .int .i64 (wrap64 (60 + t460))] rfl (by (try simp only [List.map_toArray, List.map_cons, List.map_nil]); first | done | rfl | (simp only [List.length_drop, List.length_take]; rfl)) ?_; (with_reducible refine (spec_AddResult.calls k2 _ _ x3_2 (wrap64 (2 * (wrap64 (1 + t448)))) (wrap64 (2 * (wrap64 (1 + t451)))) (wrap64 (1 + t454)) (wrap64 (60 + t457)) (wrap64 (60 + t460)) t463 t464 _ ?side1 ?side2 A20.out).mono ?_); (case side1 => repeat (first | exact (Kd.S_reads' HO_3.out).2.2 | (with_reducible refine Kd.C_alloc ?_ _) | (with_reducible refine Kd.C_drewN ?_ _) | (with_reducible refine Kd.C_drew ?_))); (case side2 => exact (Kd.S_reads' HO_3.out).2.1); rintro e w27 ⟨v465, rfl, ho0, hb⟩; refine ⟨_, rfl, ?_⟩; have n0_ := Aside0.mk (Kd.S_elder' (by (with_reducible repeat (first | apply Kd.S_alloc | apply Kd.S_drewN | apply Kd.S_drew)); exact HO_3.out) (Kd.S_base ho0) hb); have n1_ := Aside0.mk (Kd.S_lower (Kd.S_new' ho0 (Kd.S_lt (by (with_reducible repeat (first | apply Kd.S_alloc | apply Kd.S_drewN | apply Kd.S_drew)); exact HO_3.out))) (keep_size (w := w) (g := g) (row := none) (by repeat (first | (with_reducible first | exact HK.out | apply KeepBut.set_ | apply keep_drewN | apply keep_drew | apply keep_alloc) | exact HK.out)))); have n2_ := Aside0.mk (IsS91.below (by repeat (first | (with_reducible first | exact HI0.out | apply IsS91.alloc | apply IsS91.drewN | apply IsS91.drew | apply IsS91.set_1 | apply IsS91.set_2) | exact HI0.out)) hb); have n3_ := Aside0.mk (KeepBut.trans (by repeat (first | (with_reducible first | exact HK.out | apply KeepBut.set_ | apply keep_drewN | apply keep_drew | apply keep_alloc) | exact HK.out)) (KeepBut.of_below hb g none) (.inl rfl)); have n4_ := Aside0.mk (below_step (by repeat (first | (with_reducible first | exact HB.out | apply below_alloc | apply pw_below_drewN | apply below_drew1 | refine below_set ?_ (IsS91.ge HI0.out)) | exact HB.out)) hb); clear HO_3; clear HI0; clear HK; clear HB; have HO_3 := n0_; have HO466 := n1_; have HI0 := n2_; have HK := n3_; have HB := n4_; clear n0_ n1_ n2_ n3_ n4_; (try clear hb); (try clear hb2); (try clear hk); (try clear hi); (try clear ho0)))
       go_roundg k2
       case measure => have := HK1.out; have := HK2.out; omega
       case rel => exact ⟨(t463), (wrap64 (x5_2 - 1)), (t461), (t462), (by first | rfl | (simp; done) | (simp [*]; done)), H', ⟨by have := HK1.out; have := HK2.out; omega⟩, ⟨by (with_reducible repeat (first | apply Kd.S_alloc | apply Kd.S_drewN | apply Kd.S_drew)); exact Kd.S_mono HO466.out (fun _ hk => trivial)⟩, ⟨by repeat (first | (with_reducible first | exact HI0.out | apply IsS91.alloc | apply IsS91.drewN | apply IsS91.drew | apply IsS91.set_1 | apply IsS91.set_2) | exact HI0.out)⟩, ⟨by repeat (first | (with_reducible first | exact HK.out | apply KeepBut.set_ | apply keep_drewN | apply keep_drew | apply keep_alloc) | exact HK.out)⟩, ⟨by repeat (first | (with_reducible first | exact HB.out | apply below_alloc | apply pw_below_drewN | apply below_drew1 | refine below_set ?_ (IsS91.ge HI0.out)) | exact HB.out)⟩⟩
      ·
       rw [if_neg c14] at H
       have c14b0 : decide (0 < x5_2) = false := decide_eq_false c14
       clear c14
       simp only [Option.some.injEq, Prod.mk.injEq] at H
       obtain ⟨rfl, rfl, rfl⟩ := H
       go_wp2
       go_ret
       exact ⟨_, by first | rfl | (simp [errW_none, errW_some] <;> rfl) | (simp [*, errW_none, errW_some] <;> rfl), by (with_reducible repeat (first | apply Kd.S_alloc | apply Kd.S_drewN | apply Kd.S_drew)); exact HO_3.out, by repeat (first | (with_reducible first | exact HI0.out | apply IsS91.alloc | apply IsS91.drewN | apply IsS91.drew | apply IsS91.set_1 | apply IsS91.set_2) | exact HI0.out), by repeat (first | (with_reducible first | exact HB.out | apply below_alloc | apply pw_below_drewN | apply below_drew1 | refine below_set ?_ (IsS91.ge HI0.out)) | exact HB.out), by repeat (first | (with_reducible first | exact HK.out | apply KeepBut.set_ | apply keep_drewN | apply keep_drew | apply keep_alloc) | exact HK.out)⟩
end Go.Proofs.Ytiimiogpiflkdaa.A
end
