/- What the row FnJudges rests on, put together: A37, A38, A39, A40, A41, A42, A43. No condition. -/
import Derived.Test.YtdlebbmmanjffaaSFnJudgesx0
import Derived.Test.YtdlebbmmanjffaaSFnJudgesx1
import Derived.Test.YtdlebbmmanjffaaSFnJudgesx3
section
namespace Go.Proofs.Ytdlebbmmanjffaa.A
open Go.RowKit Go.Proofs.YtdlebbmmanjffaaW.PrintWords Go.Proofs.YtdlebbmmanjffaaW.PrintLast Go.Proofs.YtdlebbmmanjffaaW.PrintMore
attribute [local go_sem] max2_int min2_int max_two min_two max_three min_three max_four min_four
set_option linter.unusedVariables false
set_option linter.unusedSimpArgs false
def spec_l21Draw.l0 : Nat → List (S46) → Int → List Int → Int → Int → Option ((List (S46)) × Int × Int)
  | 0, _, _, _, _, _ => none
  | k + 1, x3, x4, x1000, x1001, x1002 => (spec_l1Below.f x1000 x1001 x1002 5).bind fun bt353 => (if x4 ≤ (wrap64 (1 + bt353.1)) then ((spec_l1Below.f x1000 bt353.2.1 bt353.2.2 5).bind fun bt356 => ((spec_l1Once.f x1000 bt356.2.1 bt356.2.2 3).bind fun bt360 => (if bt360.1 = true then ((spec_l1Below.f x1000 bt360.2.1 bt360.2.2 6).bind fun bt363 => (if x3.length < 3518437208883 then (spec_l21Draw.l0 k (x3 ++ [(⟨wrap64 (10 + x4), wrap64 (1 + bt356.1), (([wrap64 (2 * (wrap64 (1 + bt363.1)))] : List Int))⟩ : S46)]) (wrap64 (x4 + 1)) x1000 bt363.2.1 bt363.2.2) else (none))) else (if x3.length < 3518437208883 then (spec_l21Draw.l0 k (x3 ++ [(⟨wrap64 (10 + x4), wrap64 (1 + bt356.1), ([] : List Int)⟩ : S46)]) (wrap64 (x4 + 1)) x1000 bt360.2.1 bt360.2.2) else (none))))) else (some (x3, bt353.2.1, bt353.2.2)))
def spec_l21Draw.f (k : Nat) (s0_0 : List Int) (s0_1 : Int) (s0_2 : Int) : Option ((List (S46)) × Int × Int) := spec_l21Draw.l0 k (([] : List (S46))) 1 s0_0 s0_1 s0_2
set_option maxHeartbeats 8000000 in
set_option maxRecDepth 100000 in
theorem spec_l21Draw.calls (k : Nat) (g : Nat) (s0_0 : List Int) (s0_1 : Int) (s0_2 : Int) (r1 : List (S46)) (r2 : Int) (r3 : Int) (w0 w : World) (hI : IsS105 w0 w g s0_0 s0_1 s0_2) (hB : Below w0.heap.size w0 w) (h : spec_l21Draw.f k s0_0 s0_1 s0_2 = some (r1, r2, r3)) :
  Calls Try.prog 104 #[.pointer (some ⟨g, 0, none⟩)] w fun e w' => ∃ v0_ : Value, e = .returned (v0_) ∧ Kd.S k46 46 w' w.heap.size (fun _ => True) v0_ r1 ∧ IsS105 w0 w' g s0_0 r2 r3 ∧ Below w0.heap.size w0 w' ∧ KeepBut w w' g none := by
 have hu46 := Try.underlying46
 have HI0 := Aside0.mk hI
 have HK := Aside0.mk (KeepBut.refl w g none)
 have HL := Aside0.mk hB.size
 clear hI
 have HW0 := Aside0.mk hB.size
 have HB := Aside0.mk hB
 clear hB
 have H : (spec_l21Draw.l0 k (([] : List (S46))) 1 s0_0 s0_1 s0_2) = some (r1, r2, r3) := h
 clear h
 obtain ⟨y350, hy350⟩ : ∃ y_ : List (S46), y_ = (([] : List (S46))) := ⟨_, rfl⟩
 replace H : (spec_l21Draw.l0 k y350 1 s0_0 s0_1 s0_2) = some (r1, r2, r3) := by first | (rw [hy350]; with_reducible exact H) | (have H2_ := (Option.bind_some _ _).symm.trans H; rw [hy350]; with_reducible exact H2_) | (have H2_ := (Option.bind_some _ _).symm.trans H; with_reducible exact H2_) | with_reducible exact H | (rw [hy350]; exact H) | exact H
 have Ny350 := Aside0.mk hy350
 clear hy350
 have H' := Aside0.mk H
 clear H
 go_enter Try.func104, Try.ntmps104
 go_wp2_with (first | ((with_reducible refine gate_dst (N := 6) rfl ?_); refine Kd.S_lit k46 _ 46 ?hg (N := 6) ?hd (xs := ([] : List (S46))) (inner := []) (ok := fun _ => True) (okp := fun _ => True) ?hr ?hp (fun _ hk => hk) trivial (Below.refl _ _) (Nat.le_refl _) (by simp) ?_; (case hd => rfl); (case hg => rfl); (case hr => first | (go_simp; done) | (go_simp; rfl)); (case hp => exact (Reps.none _ _)); intro v351 w2 ho3 hb hg_ hnew_; clear hg_ hnew_; (first | rw [← Ny350.out] at ho3 | (simp only [Int.reduceToNat] at ho3; rw [← Ny350.out] at ho3)); have n0_ := Aside0.mk (Kd.S_lower ho3 (keep_size (w := w) (g := g) (row := none) (by repeat (first | (with_reducible first | exact HK.out | apply KeepBut.set_ | apply keep_drewN | apply keep_drew | apply keep_alloc) | exact HK.out)))); have n1_ := Aside0.mk (IsS105.below (by repeat (first | (with_reducible first | exact HI0.out | apply IsS105.alloc | apply IsS105.drewN | apply IsS105.drew | apply IsS105.set_1 | apply IsS105.set_2) | exact HI0.out)) hb); have n2_ := Aside0.mk (KeepBut.trans (by repeat (first | (with_reducible first | exact HK.out | apply KeepBut.set_ | apply keep_drewN | apply keep_drew | apply keep_alloc) | exact HK.out)) (KeepBut.of_below hb g none) (.inl rfl)); have n3_ := Aside0.mk (below_step (by repeat (first | (with_reducible first | exact HB.out | apply bA | apply bN | apply bD | refine below_set ?_ (IsS105.ge HI0.out)) | exact HB.out)) hb); clear HI0; clear HK; clear HB; have HO352 := n0_; have HI0 := n1_; have HK := n2_; have HB := n3_; clear n0_ n1_ n2_ n3_; clear hb ho3))
 go_loopg [3, 4] k (fun kq v3 v4 w' => ∃ (x3_1 : List (S46)) (x4_1 : Int) (x1001_1 : Int) (x1002_1 : Int), v4 = .int .i64 x4_1 ∧ Aside0 (spec_l21Draw.l0 kq x3_1 x4_1 s0_0 x1001_1 x1002_1 = some (r1, r2, r3)) ∧ Aside0 (kq ≤ k) ∧ Aside0 (Kd.S k46 46 w' w.heap.size (fun _ => True) v3 x3_1) ∧ Aside0 (IsS105 w0 w' g s0_0 x1001_1 x1002_1) ∧ Aside0 (KeepBut w w' g none) ∧ Aside0 (Below w0.heap.size w0 w'))
 case atStart => exact ⟨(y350), (1), (s0_1), (s0_2), (by first | rfl | (simp; done) | (simp [*]; done)), H', ⟨Nat.le_refl _⟩, ⟨by (with_reducible repeat (first | apply sA | apply sN | apply sD)); exact HO352.out⟩, ⟨by repeat (first | (with_reducible first | exact HI0.out | apply IsS105.alloc | apply IsS105.drewN | apply IsS105.drew | apply IsS105.set_1 | apply IsS105.set_2) | exact HI0.out)⟩, ⟨by repeat (first | (with_reducible first | exact HK.out | apply KeepBut.set_ | apply keep_drewN | apply keep_drew | apply keep_alloc) | exact HK.out)⟩, ⟨by repeat (first | (with_reducible first | exact HB.out | apply bA | apply bN | apply bD | refine below_set ?_ (IsS105.ge HI0.out)) | exact HB.out)⟩⟩
 case round =>
  clear H'
  try clear c1
  try clear p2
  obtain ⟨x3_1, x4_1, x1001_1, x1002_1, rfl, HA, HK1, HO_3, HI0, HK, HB⟩ := hrel
  cases gk with
  | zero => exact absurd HA.out (by simp [spec_l21Draw.l0])
  | succ k1 =>
   have H := HA.out
   clear HA
   simp only [spec_l21Draw.l0] at H
   replace H := Option.bind_eq_some_iff.mp H
   obtain ⟨⟨t353, t354, t355⟩, A40, H⟩ := H
   replace H : (if x4_1 ≤ (wrap64 (1 + t353)) then ((spec_l1Below.f s0_0 t354 t355 5).bind fun bt356 => ((spec_l1Once.f s0_0 bt356.2.1 bt356.2.2 3).bind fun bt360 => (if bt360.1 = true then ((spec_l1Below.f s0_0 bt360.2.1 bt360.2.2 6).bind fun bt363 => (if x3_1.length < 3518437208883 then (spec_l21Draw.l0 k1 (x3_1 ++ [(⟨wrap64 (10 + x4_1), wrap64 (1 + bt356.1), (([wrap64 (2 * (wrap64 (1 + bt363.1)))] : List Int))⟩ : S46)]) (wrap64 (x4_1 + 1)) s0_0 bt363.2.1 bt363.2.2) else (none))) else (if x3_1.length < 3518437208883 then (spec_l21Draw.l0 k1 (x3_1 ++ [(⟨wrap64 (10 + x4_1), wrap64 (1 + bt356.1), ([] : List Int)⟩ : S46)]) (wrap64 (x4_1 + 1)) s0_0 bt360.2.1 bt360.2.2) else (none))))) else (some (x3_1, t354, t355))) = some (r1, r2, r3) := H
   have A4 := Aside0.mk A40
   clear A40
   by_cases c5 : x4_1 ≤ (wrap64 (1 + t353))
   rotate_left
   ·
    rw [if_neg c5] at H
    have c5b0 : decide (x4_1 ≤ (wrap64 (1 + t353))) = false := decide_eq_false c5
    clear c5
    simp only [Option.some.injEq, Prod.mk.injEq] at H
    obtain ⟨rfl, rfl, rfl⟩ := H
    go_wp2_with (first | ((with_reducible refine gate_callee (f := 102) rfl ?_); refine goesL_ (some 9) rfl rfl Try.func102 (by kernel_rfl) rfl #[.pointer (some ⟨g, 0, none⟩), .int .i64 5] rfl (by (try simp only [Y1, Y2, Y3]); first | done | rfl | (simp only [Y4, Y5]; rfl)) ?_; (with_reducible refine (spec_l1Below.calls g s0_0 x1001_1 x1002_1 5 t353 t354 t355 w0 _ ?side1 ?side2 A4.out).mono ?_); (case side1 => repeat (first | (with_reducible first | exact HI0.out | apply IsS105.alloc | apply IsS105.drewN | apply IsS105.drew | apply IsS105.set_1 | apply IsS105.set_2) | exact HI0.out)); (case side2 => repeat (first | (with_reducible first | exact HB.out | apply bA | apply bN | apply bD | refine below_set ?_ (IsS105.ge HI0.out)) | exact HB.out)); rintro e w34 ⟨rfl, hi, hb, hk⟩; refine ⟨_, rfl, ?_⟩; replace HO_3 := Aside0.mk (Kd.S_mono (Kd.S_keep (IsS105.apartS (show IsS105 w0 _ g s0_0 x1001_1 x1002_1 from by repeat (first | (with_reducible first | exact HI0.out | apply IsS105.alloc | apply IsS105.drewN | apply IsS105.drew | apply IsS105.set_1 | apply IsS105.set_2) | exact HI0.out)) (by (with_reducible repeat (first | apply sA | apply sN | apply sD)); exact HO_3.out) (by decide)) hk (fun _ h => h.2)) (fun _ h => h.1)); replace HK := Aside0.mk (KeepBut.trans (by repeat (first | (with_reducible first | exact HK.out | apply KeepBut.set_ | apply keep_drewN | apply keep_drew | apply keep_alloc) | exact HK.out)) hk (.inl rfl)); replace HB := Aside0.mk (hb); replace HI0 := Aside0.mk (hi); (try clear hb); (try clear hb2); (try clear hk); (try clear hi)))
    go_ret
    exact ⟨_, by first | rfl | (simp [*, errW_none, errW_some] <;> rfl), by (with_reducible repeat (first | apply sA | apply sN | apply sD)); exact HO_3.out, by repeat (first | (with_reducible first | exact HI0.out | apply IsS105.alloc | apply IsS105.drewN | apply IsS105.drew | apply IsS105.set_1 | apply IsS105.set_2) | exact HI0.out), by repeat (first | (with_reducible first | exact HB.out | apply bA | apply bN | apply bD | refine below_set ?_ (IsS105.ge HI0.out)) | exact HB.out), by repeat (first | (with_reducible first | exact HK.out | apply KeepBut.set_ | apply keep_drewN | apply keep_drew | apply keep_alloc) | exact HK.out)⟩

   rw [if_pos c5] at H
   have c5b0 : decide (x4_1 ≤ (wrap64 (1 + t353))) = true := decide_eq_true c5
   clear c5
   replace H := Option.bind_eq_some_iff.mp H
   obtain ⟨⟨t356, t357, t358⟩, A60, H⟩ := H
   replace H : ((spec_l1Once.f s0_0 t357 t358 3).bind fun bt360 => (if bt360.1 = true then ((spec_l1Below.f s0_0 bt360.2.1 bt360.2.2 6).bind fun bt363 => (if x3_1.length < 3518437208883 then (spec_l21Draw.l0 k1 (x3_1 ++ [(⟨wrap64 (10 + x4_1), wrap64 (1 + t356), (([wrap64 (2 * (wrap64 (1 + bt363.1)))] : List Int))⟩ : S46)]) (wrap64 (x4_1 + 1)) s0_0 bt363.2.1 bt363.2.2) else (none))) else (if x3_1.length < 3518437208883 then (spec_l21Draw.l0 k1 (x3_1 ++ [(⟨wrap64 (10 + x4_1), wrap64 (1 + t356), ([] : List Int)⟩ : S46)]) (wrap64 (x4_1 + 1)) s0_0 bt360.2.1 bt360.2.2) else (none)))) = some (r1, r2, r3) := H
   have A6 := Aside0.mk A60
   clear A60
   replace H := Option.bind_eq_some_iff.mp H
   obtain ⟨⟨t360, t361, t362⟩, A70, H⟩ := H
   replace H : (if t360 = true then ((spec_l1Below.f s0_0 t361 t362 6).bind fun bt363 => (if x3_1.length < 3518437208883 then (spec_l21Draw.l0 k1 (x3_1 ++ [(⟨wrap64 (10 + x4_1), wrap64 (1 + t356), (([wrap64 (2 * (wrap64 (1 + bt363.1)))] : List Int))⟩ : S46)]) (wrap64 (x4_1 + 1)) s0_0 bt363.2.1 bt363.2.2) else (none))) else (if x3_1.length < 3518437208883 then (spec_l21Draw.l0 k1 (x3_1 ++ [(⟨wrap64 (10 + x4_1), wrap64 (1 + t356), ([] : List Int)⟩ : S46)]) (wrap64 (x4_1 + 1)) s0_0 t361 t362) else (none))) = some (r1, r2, r3) := H
   have A7 := Aside0.mk A70
   clear A70
   by_cases c8 : t360 = true
   rotate_left
   ·
    replace c8 := Bool.eq_false_iff.mpr c8
    subst c8
    have H1 : (if x3_1.length < 3518437208883 then (spec_l21Draw.l0 k1 (x3_1 ++ [(⟨wrap64 (10 + x4_1), wrap64 (1 + t356), ([] : List Int)⟩ : S46)]) (wrap64 (x4_1 + 1)) s0_0 t361 t362) else (none)) = some (r1, r2, r3) := by rw [if_neg (show ¬ (false = true) by decide)] at H; exact H
    clear H
    have H := H1
    clear H1
    by_cases c25 : x3_1.length < 3518437208883
    rotate_left
    ·
     rw [if_neg c25] at H
     exact absurd H (by simp)
    rw [if_pos c25] at H
    have LMc25 := Aside0.mk c25
    clear c25
    obtain ⟨y372, hy372⟩ : ∃ y_ : List (S46), y_ = (x3_1 ++ [(⟨wrap64 (10 + x4_1), wrap64 (1 + t356), ([] : List Int)⟩ : S46)]) := ⟨_, rfl⟩
    replace H : (spec_l21Draw.l0 k1 y372 (wrap64 (x4_1 + 1)) s0_0 t361 t362) = some (r1, r2, r3) := by first | (rw [hy372]; with_reducible exact H) | (have H2_ := (Option.bind_some _ _).symm.trans H; rw [hy372]; with_reducible exact H2_) | (have H2_ := (Option.bind_some _ _).symm.trans H; with_reducible exact H2_) | with_reducible exact H | (rw [hy372]; exact H) | exact H
    have Ny372 := Aside0.mk hy372
    clear hy372
    have H' := Aside0.mk H
    clear H
    go_wp2_with (first | ((with_reducible refine gate_callee (f := 102) rfl ?_); refine goesL_ (some 9) rfl rfl Try.func102 (by kernel_rfl) rfl #[.pointer (some ⟨g, 0, none⟩), .int .i64 5] rfl (by (try simp only [Y1, Y2, Y3]); first | done | rfl | (simp only [Y4, Y5]; rfl)) ?_; (with_reducible refine (spec_l1Below.calls g s0_0 x1001_1 x1002_1 5 t353 t354 t355 w0 _ ?side1 ?side2 A4.out).mono ?_); (case side1 => repeat (first | (with_reducible first | exact HI0.out | apply IsS105.alloc | apply IsS105.drewN | apply IsS105.drew | apply IsS105.set_1 | apply IsS105.set_2) | exact HI0.out)); (case side2 => repeat (first | (with_reducible first | exact HB.out | apply bA | apply bN | apply bD | refine below_set ?_ (IsS105.ge HI0.out)) | exact HB.out)); rintro e w26 ⟨rfl, hi, hb, hk⟩; refine ⟨_, rfl, ?_⟩; replace HO_3 := Aside0.mk (Kd.S_mono (Kd.S_keep (IsS105.apartS (show IsS105 w0 _ g s0_0 x1001_1 x1002_1 from by repeat (first | (with_reducible first | exact HI0.out | apply IsS105.alloc | apply IsS105.drewN | apply IsS105.drew | apply IsS105.set_1 | apply IsS105.set_2) | exact HI0.out)) (by (with_reducible repeat (first | apply sA | apply sN | apply sD)); exact HO_3.out) (by decide)) hk (fun _ h => h.2)) (fun _ h => h.1)); replace HK := Aside0.mk (KeepBut.trans (by repeat (first | (with_reducible first | exact HK.out | apply KeepBut.set_ | apply keep_drewN | apply keep_drew | apply keep_alloc) | exact HK.out)) hk (.inl rfl)); replace HB := Aside0.mk (hb); replace HI0 := Aside0.mk (hi); (try clear hb); (try clear hb2); (try clear hk); (try clear hi)) | ((with_reducible refine gate_callee (f := 102) rfl ?_); refine goesL_ (some 17) rfl rfl Try.func102 (by kernel_rfl) rfl #[.pointer (some ⟨g, 0, none⟩), .int .i64 5] rfl (by (try simp only [Y1, Y2, Y3]); first | done | rfl | (simp only [Y4, Y5]; rfl)) ?_; (with_reducible refine (spec_l1Below.calls g s0_0 t354 t355 5 t356 t357 t358 w0 _ ?side1 ?side2 A6.out).mono ?_); (case side1 => repeat (first | (with_reducible first | exact HI0.out | apply IsS105.alloc | apply IsS105.drewN | apply IsS105.drew | apply IsS105.set_1 | apply IsS105.set_2) | exact HI0.out)); (case side2 => repeat (first | (with_reducible first | exact HB.out | apply bA | apply bN | apply bD | refine below_set ?_ (IsS105.ge HI0.out)) | exact HB.out)); rintro e w27 ⟨rfl, hi, hb, hk⟩; refine ⟨_, rfl, ?_⟩; replace HO_3 := Aside0.mk (Kd.S_mono (Kd.S_keep (IsS105.apartS (show IsS105 w0 _ g s0_0 t354 t355 from by repeat (first | (with_reducible first | exact HI0.out | apply IsS105.alloc | apply IsS105.drewN | apply IsS105.drew | apply IsS105.set_1 | apply IsS105.set_2) | exact HI0.out)) (by (with_reducible repeat (first | apply sA | apply sN | apply sD)); exact HO_3.out) (by decide)) hk (fun _ h => h.2)) (fun _ h => h.1)); replace HK := Aside0.mk (KeepBut.trans (by repeat (first | (with_reducible first | exact HK.out | apply KeepBut.set_ | apply keep_drewN | apply keep_drew | apply keep_alloc) | exact HK.out)) hk (.inl rfl)); replace HB := Aside0.mk (hb); replace HI0 := Aside0.mk (hi); (try clear hb); (try clear hb2); (try clear hk); (try clear hi)) | ((with_reducible refine gate_dst (N := 5) rfl ?_); refine box_event ?hg (N := 5) ?hd (cs := #[.int .i64 0, .int .i64 0, .slice none 0 0]) (t := 46) ?hr ?_; (case hd => rfl); (case hg => rfl); (case hr => first | (go_simp; done) | (go_simp; rfl)); intro gb359 hg w28 hbox hb; have n0_ := Aside0.mk (Kd.S_below (Kd.S_elderB (by (with_reducible repeat (first | apply sA | apply sN | apply sD)); exact HO_3.out) gb359 (Nat.le_of_eq hg.symm)) hb); have n1_ := Aside0.mk (IsS105.below (by repeat (first | (with_reducible first | exact HI0.out | apply IsS105.alloc | apply IsS105.drewN | apply IsS105.drew | apply IsS105.set_1 | apply IsS105.set_2) | exact HI0.out)) hb); have n2_ := Aside0.mk (KeepBut.trans (by repeat (first | (with_reducible first | exact HK.out | apply KeepBut.set_ | apply keep_drewN | apply keep_drew | apply keep_alloc) | exact HK.out)) (KeepBut.of_below hb g none) (.inl rfl)); have n3_ := Aside0.mk (below_step (by repeat (first | (with_reducible first | exact HB.out | apply bA | apply bN | apply bD | refine below_set ?_ (IsS105.ge HI0.out)) | exact HB.out)) hb); have n4_ := Aside0.mk (hbox); have n5_ := Aside0.mk ((by rw [hg]; exact (keep_size (w := w) (g := g) (row := none) (by repeat (first | (with_reducible first | exact HK.out | apply KeepBut.set_ | apply keep_drewN | apply keep_drew | apply keep_alloc) | exact HK.out))) : w.heap.size ≤ gb359)); have n6_ := Aside0.mk ((Nat.le_trans HW0.out (by rw [hg]; exact (keep_size (w := w) (g := g) (row := none) (by repeat (first | (with_reducible first | exact HK.out | apply KeepBut.set_ | apply keep_drewN | apply keep_drew | apply keep_alloc) | exact HK.out))) : w.heap.size ≤ gb359) : w0.heap.size ≤ gb359)); have n7_ := Aside0.mk ((by rw [hg]; exact Nat.ne_of_lt (IsS105.lt (show IsS105 w0 _ g s0_0 t357 t358 from by repeat (first | (with_reducible first | exact HI0.out | apply IsS105.alloc | apply IsS105.drewN | apply IsS105.drew | apply IsS105.set_1 | apply IsS105.set_2) | exact HI0.out))) : g ≠ gb359)); have n8_ := Aside0.mk ((by rw [hg]; exact Nat.ne_of_gt (IsS105.lt (show IsS105 w0 _ g s0_0 t357 t358 from by repeat (first | (with_reducible first | exact HI0.out | apply IsS105.alloc | apply IsS105.drewN | apply IsS105.drew | apply IsS105.set_1 | apply IsS105.set_2) | exact HI0.out))) : gb359 ≠ g)); clear HO_3; clear HI0; clear HK; clear HB; have HO_3 := n0_; have HI0 := n1_; have HK := n2_; have HB := n3_; have BK359 := n4_; have GW359 := n5_; have GE359 := n6_; have NB0_359 := n7_; have NB359_0 := n8_; clear n0_ n1_ n2_ n3_ n4_ n5_ n6_ n7_ n8_; clear hb hbox hg; have hnb29 := NB359_0.out; have hnc29 := NB0_359.out; have hcz30_0 : w28.cell? ⟨gb359, 0, none⟩ = some (.int .i64 0) := (blk_cell BK359.out 0).trans rfl; have hcz30_1 : w28.cell? ⟨gb359, 1, none⟩ = some (.int .i64 0) := (blk_cell BK359.out 1).trans rfl; have hcz30_2 : w28.cell? ⟨gb359, 2, none⟩ = some (.slice none 0 0) := (blk_cell BK359.out 2).trans rfl; have hfz30_0 := blk_frozen BK359.out 0; have hfz30_1 := blk_frozen BK359.out 1; have hfz30_2 := blk_frozen BK359.out 2) | ((with_reducible refine gate_callee (f := 120) rfl ?_); refine goesL_ (some 21) rfl rfl Try.func120 (by kernel_rfl) rfl #[.pointer (some ⟨g, 0, none⟩), .int .i64 3] rfl (by (try simp only [Y1, Y2, Y3]); first | done | rfl | (simp only [Y4, Y5]; rfl)) ?_; (with_reducible refine (spec_l1Once.calls g s0_0 t357 t358 3 false t361 t362 w0 _ ?side1 ?side2 A7.out).mono ?_); (case side1 => repeat (first | (with_reducible first | exact HI0.out | apply IsS105.alloc | apply IsS105.drewN | apply IsS105.drew | apply IsS105.set_1 | apply IsS105.set_2 | refine IsS105.far ?_ NB0_359.out _) | exact HI0.out)); (case side2 => repeat (first | (with_reducible first | exact HB.out | apply bA | apply bN | apply bD | refine below_set ?_ (IsS105.ge HI0.out) | refine below_set ?_ GE359.out) | exact HB.out)); rintro e w31 ⟨rfl, hi, hb, hk⟩; refine ⟨_, rfl, ?_⟩; replace HO_3 := Aside0.mk (Kd.S_mono (Kd.S_keep (IsS105.apartS (show IsS105 w0 _ g s0_0 t357 t358 from by repeat (first | (with_reducible first | exact HI0.out | apply IsS105.alloc | apply IsS105.drewN | apply IsS105.drew | apply IsS105.set_1 | apply IsS105.set_2 | refine IsS105.far ?_ NB0_359.out _) | exact HI0.out)) (by (with_reducible repeat (first | apply sA | apply sN | apply sD)); exact (Kd.S_mono (Kd.S_far (p := ⟨gb359, 2, none⟩) (Kd.S_far (p := ⟨gb359, 1, none⟩) (Kd.S_far (p := ⟨gb359, 0, none⟩) (Kd.S_mono HO_3.out (fun k_ hk => (⟨hk, hk.2⟩ : _ ∧ k_ ≠ gb359))) (fun _ hk => hk.2) (.int .i64 (wrap64 (10 + x4_1)))) (fun _ hk => hk.2) (.int .i64 (wrap64 (1 + t356)))) (fun _ hk => hk.2) (.slice none 0 0)) (fun _ h_ => h_.1))) (by decide)) hk (fun _ h => h.2)) (fun _ h => h.1)); replace BK359 := Aside0.mk (KeepBut.blk hk (g' := gb359) (o := .cells #[.int .i64 (wrap64 (10 + x4_1)), .int .i64 (wrap64 (1 + t356)), .slice none 0 0] 46 (0, 0)) (by (with_reducible repeat (first | refine kN ?_ _ | refine kD ?_ | refine kA ?_ _)); refine blk_put (cs := #[.int .i64 (wrap64 (10 + x4_1)), .int .i64 (wrap64 (1 + t356)), .slice none 0 0]) ?_ 2 _ rfl; (with_reducible repeat (first | refine kN ?_ _ | refine kD ?_ | refine kA ?_ _)); refine blk_put (cs := #[.int .i64 (wrap64 (10 + x4_1)), .int .i64 0, .slice none 0 0]) ?_ 1 _ rfl; (with_reducible repeat (first | refine kN ?_ _ | refine kD ?_ | refine kA ?_ _)); refine blk_put (cs := #[.int .i64 0, .int .i64 0, .slice none 0 0]) ?_ 0 _ rfl; (with_reducible repeat (first | refine kN ?_ _ | refine kD ?_ | refine kA ?_ _)); exact BK359.out) NB359_0.out (by simp)); replace HK := Aside0.mk (KeepBut.trans (by repeat (first | (with_reducible first | exact HK.out | apply KeepBut.set_ | apply keep_drewN | apply keep_drew | apply keep_alloc | refine keep_far ?_ GW359.out _) | exact HK.out)) hk (.inl rfl)); replace HB := Aside0.mk (hb); replace HI0 := Aside0.mk (hi); (try clear hb); (try clear hb2); (try clear hk); (try clear hi); have hcz32_0 : w31.cell? ⟨gb359, 0, none⟩ = some (.int .i64 (wrap64 (10 + x4_1))) := (blk_cell BK359.out 0).trans rfl; have hcz32_1 : w31.cell? ⟨gb359, 1, none⟩ = some (.int .i64 (wrap64 (1 + t356))) := (blk_cell BK359.out 1).trans rfl; have hcz32_2 : w31.cell? ⟨gb359, 2, none⟩ = some (.slice none 0 0) := (blk_cell BK359.out 2).trans rfl; have hfz32_0 := blk_frozen BK359.out 0; have hfz32_1 := blk_frozen BK359.out 1; have hfz32_2 := blk_frozen BK359.out 2) | ((with_reducible refine gate_builtin (b := .append) (xs := #[.tmp 28, .tmp 30]) rfl ?_); at_builtin; refine Kd.S_append k46 w.heap.size rfl (.tmp 28) (.tmp 30) 25 46 (.agg #[(.int .i64 0), (.int .i64 0), (.slice none 0 0)]) 40 rfl Try.underlying25 info46 rfl (by decide) (by omega) u3 x3_1 (⟨wrap64 (10 + x4_1), wrap64 (1 + t356), ([] : List Int)⟩ : S46) [.int .i64 (wrap64 (10 + x4_1)), .int .i64 (wrap64 (1 + t356)), .slice none 0 0] (fun k_ => k_ ≠ gb359) (fun _ => False) rfl rfl ?aP (fun k_ hk_ => hk_.elim) ?aF ?aO (Below.refl _ _) ?aS ?aL ?_; (case aP => exact k46_mkM _ _ _ (⟨wrap64 (10 + x4_1), wrap64 (1 + t356), ([] : List Int)⟩ : S46) (Kd.R_nil _ _ _ _ _)); (case aF => exact (fun k_ hk => Kd.freshB (g := gb359) (o := .cells #[.int .i64 (wrap64 (10 + x4_1)), .int .i64 (wrap64 (1 + t356)), .slice none 0 0] 46 (0, 0)) (by (with_reducible repeat (first | refine kN ?_ _ | refine kD ?_ | refine kA ?_ _)); exact BK359.out) k_ hk)); (case aO => exact (by (with_reducible repeat (first | apply sA | apply sN | apply sD)); exact Kd.S_mono HO_3.out (fun k_ hk => ⟨hk.2, fun e_ => e_⟩))); (case aS => exact (keep_size (w := w) (g := g) (row := none) (by repeat (first | (with_reducible first | exact HK.out | apply KeepBut.set_ | apply keep_drewN | apply keep_drew | apply keep_alloc | refine keep_far ?_ GW359.out _) | exact HK.out)))); (case aL => have := LMc25.out; omega); intro v373 w33 ho hb hg hat; rw [← Ny372.out] at ho; have n0_ := Aside0.mk (IsS105.grown (by repeat (first | (with_reducible first | exact HI0.out | apply IsS105.alloc | apply IsS105.drewN | apply IsS105.drew | apply IsS105.set_1 | apply IsS105.set_2 | refine IsS105.far ?_ NB0_359.out _) | exact HI0.out)) hg (IsS105.own_neS HI0.out HO_3.out (by decide))); have n1_ := Aside0.mk (blk_grown (g := gb359) (o := .cells #[.int .i64 (wrap64 (10 + x4_1)), .int .i64 (wrap64 (1 + t356)), .slice none 0 0] 46 (0, 0)) (by (with_reducible repeat (first | refine kN ?_ _ | refine kD ?_ | refine kA ?_ _)); exact BK359.out) hg (Kd.S_away HO_3.out (fun _ hk => hk.2))); have n2_ := Aside0.mk (below_weaken (by repeat (first | (with_reducible first | exact HB.out | apply bA | apply bN | apply bD | refine below_set ?_ (IsS105.ge HI0.out) | refine below_set ?_ GE359.out) | exact HB.out)) HL.out hb); have n3_ := Aside0.mk (KeepBut.trans (by repeat (first | (with_reducible first | exact HK.out | apply KeepBut.set_ | apply keep_drewN | apply keep_drew | apply keep_alloc | refine keep_far ?_ GW359.out _) | exact HK.out)) (KeepBut.of_grown hg g) (Kd.S_base2 HO_3.out)); have n4_ := Aside0.mk (ho); clear HI0; clear BK359; clear HB; clear HK; clear HO_3; have HI0 := n0_; have BK359 := n1_; have HB := n2_; have HK := n3_; have HO374 := n4_; clear n0_ n1_ n2_ n3_ n4_; clear ho hb hg hat))
    go_roundg k1
    case measure => have := HK1.out; omega
    case rel => exact ⟨(y372), (wrap64 (x4_1 + 1)), (t361), (t362), (by first | rfl | (simp; done) | (simp [*]; done)), H', ⟨by have := HK1.out; omega⟩, ⟨by (with_reducible repeat (first | apply sA | apply sN | apply sD)); exact Kd.S_mono HO374.out (fun _ hk => trivial)⟩, ⟨by repeat (first | (with_reducible first | exact HI0.out | apply IsS105.alloc | apply IsS105.drewN | apply IsS105.drew | apply IsS105.set_1 | apply IsS105.set_2 | refine IsS105.far ?_ NB0_359.out _) | exact HI0.out)⟩, ⟨by repeat (first | (with_reducible first | exact HK.out | apply KeepBut.set_ | apply keep_drewN | apply keep_drew | apply keep_alloc | refine keep_far ?_ GW359.out _) | exact HK.out)⟩, ⟨by repeat (first | (with_reducible first | exact HB.out | apply bA | apply bN | apply bD | refine below_set ?_ (IsS105.ge HI0.out) | refine below_set ?_ GE359.out) | exact HB.out)⟩⟩
   subst c8
   have H1 : ((spec_l1Below.f s0_0 t361 t362 6).bind fun bt363 => (if x3_1.length < 3518437208883 then (spec_l21Draw.l0 k1 (x3_1 ++ [(⟨wrap64 (10 + x4_1), wrap64 (1 + t356), (([wrap64 (2 * (wrap64 (1 + bt363.1)))] : List Int))⟩ : S46)]) (wrap64 (x4_1 + 1)) s0_0 bt363.2.1 bt363.2.2) else (none))) = some (r1, r2, r3) := by rw [if_pos rfl] at H; exact H
   clear H
   have H := H1
   clear H1
   replace H := Option.bind_eq_some_iff.mp H
   obtain ⟨⟨t363, t364, t365⟩, A90, H⟩ := H
   replace H : (if x3_1.length < 3518437208883 then (spec_l21Draw.l0 k1 (x3_1 ++ [(⟨wrap64 (10 + x4_1), wrap64 (1 + t356), (([wrap64 (2 * (wrap64 (1 + t363)))] : List Int))⟩ : S46)]) (wrap64 (x4_1 + 1)) s0_0 t364 t365) else (none)) = some (r1, r2, r3) := H
   have A9 := Aside0.mk A90
   clear A90
   obtain ⟨y366, hy366⟩ : ∃ y_ : List Int, y_ = (([wrap64 (2 * (wrap64 (1 + t363)))] : List Int)) := ⟨_, rfl⟩
   replace H : (if x3_1.length < 3518437208883 then (spec_l21Draw.l0 k1 (x3_1 ++ [(⟨wrap64 (10 + x4_1), wrap64 (1 + t356), y366⟩ : S46)]) (wrap64 (x4_1 + 1)) s0_0 t364 t365) else (none)) = some (r1, r2, r3) := by first | (rw [hy366]; with_reducible exact H) | (have H2_ := (Option.bind_some _ _).symm.trans H; rw [hy366]; with_reducible exact H2_) | (have H2_ := (Option.bind_some _ _).symm.trans H; with_reducible exact H2_) | with_reducible exact H | (rw [hy366]; exact H) | exact H
   have Ny366 := Aside0.mk hy366
   clear hy366
   by_cases c10 : x3_1.length < 3518437208883
   rotate_left
   ·
    rw [if_neg c10] at H
    exact absurd H (by simp)
   rw [if_pos c10] at H
   have LMc10 := Aside0.mk c10
   clear c10
   obtain ⟨y369, hy369⟩ : ∃ y_ : List (S46), y_ = (x3_1 ++ [(⟨wrap64 (10 + x4_1), wrap64 (1 + t356), y366⟩ : S46)]) := ⟨_, rfl⟩
   replace H : (spec_l21Draw.l0 k1 y369 (wrap64 (x4_1 + 1)) s0_0 t364 t365) = some (r1, r2, r3) := by first | (rw [hy369]; with_reducible exact H) | (have H2_ := (Option.bind_some _ _).symm.trans H; rw [hy369]; with_reducible exact H2_) | (have H2_ := (Option.bind_some _ _).symm.trans H; with_reducible exact H2_) | with_reducible exact H | (rw [hy369]; exact H) | exact H
   have Ny369 := Aside0.mk hy369
   clear hy369
   have H' := Aside0.mk H
   clear H
   go_wp2_with (first | ((with_reducible refine gate_callee (f := 102) rfl ?_); refine goesL_ (some 9) rfl rfl Try.func102 (by kernel_rfl) rfl #[.pointer (some ⟨g, 0, none⟩), .int .i64 5] rfl (by (try simp only [Y1, Y2, Y3]); first | done | rfl | (simp only [Y4, Y5]; rfl)) ?_; (with_reducible refine (spec_l1Below.calls g s0_0 x1001_1 x1002_1 5 t353 t354 t355 w0 _ ?side1 ?side2 A4.out).mono ?_); (case side1 => repeat (first | (with_reducible first | exact HI0.out | apply IsS105.alloc | apply IsS105.drewN | apply IsS105.drew | apply IsS105.set_1 | apply IsS105.set_2) | exact HI0.out)); (case side2 => repeat (first | (with_reducible first | exact HB.out | apply bA | apply bN | apply bD | refine below_set ?_ (IsS105.ge HI0.out)) | exact HB.out)); rintro e w11 ⟨rfl, hi, hb, hk⟩; refine ⟨_, rfl, ?_⟩; replace HO_3 := Aside0.mk (Kd.S_mono (Kd.S_keep (IsS105.apartS (show IsS105 w0 _ g s0_0 x1001_1 x1002_1 from by repeat (first | (with_reducible first | exact HI0.out | apply IsS105.alloc | apply IsS105.drewN | apply IsS105.drew | apply IsS105.set_1 | apply IsS105.set_2) | exact HI0.out)) (by (with_reducible repeat (first | apply sA | apply sN | apply sD)); exact HO_3.out) (by decide)) hk (fun _ h => h.2)) (fun _ h => h.1)); replace HK := Aside0.mk (KeepBut.trans (by repeat (first | (with_reducible first | exact HK.out | apply KeepBut.set_ | apply keep_drewN | apply keep_drew | apply keep_alloc) | exact HK.out)) hk (.inl rfl)); replace HB := Aside0.mk (hb); replace HI0 := Aside0.mk (hi); (try clear hb); (try clear hb2); (try clear hk); (try clear hi)) | ((with_reducible refine gate_callee (f := 102) rfl ?_); refine goesL_ (some 17) rfl rfl Try.func102 (by kernel_rfl) rfl #[.pointer (some ⟨g, 0, none⟩), .int .i64 5] rfl (by (try simp only [Y1, Y2, Y3]); first | done | rfl | (simp only [Y4, Y5]; rfl)) ?_; (with_reducible refine (spec_l1Below.calls g s0_0 t354 t355 5 t356 t357 t358 w0 _ ?side1 ?side2 A6.out).mono ?_); (case side1 => repeat (first | (with_reducible first | exact HI0.out | apply IsS105.alloc | apply IsS105.drewN | apply IsS105.drew | apply IsS105.set_1 | apply IsS105.set_2) | exact HI0.out)); (case side2 => repeat (first | (with_reducible first | exact HB.out | apply bA | apply bN | apply bD | refine below_set ?_ (IsS105.ge HI0.out)) | exact HB.out)); rintro e w12 ⟨rfl, hi, hb, hk⟩; refine ⟨_, rfl, ?_⟩; replace HO_3 := Aside0.mk (Kd.S_mono (Kd.S_keep (IsS105.apartS (show IsS105 w0 _ g s0_0 t354 t355 from by repeat (first | (with_reducible first | exact HI0.out | apply IsS105.alloc | apply IsS105.drewN | apply IsS105.drew | apply IsS105.set_1 | apply IsS105.set_2) | exact HI0.out)) (by (with_reducible repeat (first | apply sA | apply sN | apply sD)); exact HO_3.out) (by decide)) hk (fun _ h => h.2)) (fun _ h => h.1)); replace HK := Aside0.mk (KeepBut.trans (by repeat (first | (with_reducible first | exact HK.out | apply KeepBut.set_ | apply keep_drewN | apply keep_drew | apply keep_alloc) | exact HK.out)) hk (.inl rfl)); replace HB := Aside0.mk (hb); replace HI0 := Aside0.mk (hi); (try clear hb); (try clear hb2); (try clear hk); (try clear hi)) | ((with_reducible refine gate_dst (N := 5) rfl ?_); refine box_event ?hg (N := 5) ?hd (cs := #[.int .i64 0, .int .i64 0, .slice none 0 0]) (t := 46) ?hr ?_; (case hd => rfl); (case hg => rfl); (case hr => first | (go_simp; done) | (go_simp; rfl)); intro gb359 hg w13 hbox hb; have n0_ := Aside0.mk (Kd.S_below (Kd.S_elderB (by (with_reducible repeat (first | apply sA | apply sN | apply sD)); exact HO_3.out) gb359 (Nat.le_of_eq hg.symm)) hb); have n1_ := Aside0.mk (IsS105.below (by repeat (first | (with_reducible first | exact HI0.out | apply IsS105.alloc | apply IsS105.drewN | apply IsS105.drew | apply IsS105.set_1 | apply IsS105.set_2) | exact HI0.out)) hb); have n2_ := Aside0.mk (KeepBut.trans (by repeat (first | (with_reducible first | exact HK.out | apply KeepBut.set_ | apply keep_drewN | apply keep_drew | apply keep_alloc) | exact HK.out)) (KeepBut.of_below hb g none) (.inl rfl)); have n3_ := Aside0.mk (below_step (by repeat (first | (with_reducible first | exact HB.out | apply bA | apply bN | apply bD | refine below_set ?_ (IsS105.ge HI0.out)) | exact HB.out)) hb); have n4_ := Aside0.mk (hbox); have n5_ := Aside0.mk ((by rw [hg]; exact (keep_size (w := w) (g := g) (row := none) (by repeat (first | (with_reducible first | exact HK.out | apply KeepBut.set_ | apply keep_drewN | apply keep_drew | apply keep_alloc) | exact HK.out))) : w.heap.size ≤ gb359)); have n6_ := Aside0.mk ((Nat.le_trans HW0.out (by rw [hg]; exact (keep_size (w := w) (g := g) (row := none) (by repeat (first | (with_reducible first | exact HK.out | apply KeepBut.set_ | apply keep_drewN | apply keep_drew | apply keep_alloc) | exact HK.out))) : w.heap.size ≤ gb359) : w0.heap.size ≤ gb359)); have n7_ := Aside0.mk ((by rw [hg]; exact Nat.ne_of_lt (IsS105.lt (show IsS105 w0 _ g s0_0 t357 t358 from by repeat (first | (with_reducible first | exact HI0.out | apply IsS105.alloc | apply IsS105.drewN | apply IsS105.drew | apply IsS105.set_1 | apply IsS105.set_2) | exact HI0.out))) : g ≠ gb359)); have n8_ := Aside0.mk ((by rw [hg]; exact Nat.ne_of_gt (IsS105.lt (show IsS105 w0 _ g s0_0 t357 t358 from by repeat (first | (with_reducible first | exact HI0.out | apply IsS105.alloc | apply IsS105.drewN | apply IsS105.drew | apply IsS105.set_1 | apply IsS105.set_2) | exact HI0.out))) : gb359 ≠ g)); clear HO_3; clear HI0; clear HK; clear HB; have HO_3 := n0_; have HI0 := n1_; have HK := n2_; have HB := n3_; have BK359 := n4_; have GW359 := n5_; have GE359 := n6_; have NB0_359 := n7_; have NB359_0 := n8_; clear n0_ n1_ n2_ n3_ n4_ n5_ n6_ n7_ n8_; clear hb hbox hg; have hnb14 := NB359_0.out; have hnc14 := NB0_359.out; have hcz15_0 : w13.cell? ⟨gb359, 0, none⟩ = some (.int .i64 0) := (blk_cell BK359.out 0).trans rfl; have hcz15_1 : w13.cell? ⟨gb359, 1, none⟩ = some (.int .i64 0) := (blk_cell BK359.out 1).trans rfl; have hcz15_2 : w13.cell? ⟨gb359, 2, none⟩ = some (.slice none 0 0) := (blk_cell BK359.out 2).trans rfl; have hfz15_0 := blk_frozen BK359.out 0; have hfz15_1 := blk_frozen BK359.out 1; have hfz15_2 := blk_frozen BK359.out 2) | ((with_reducible refine gate_callee (f := 120) rfl ?_); refine goesL_ (some 21) rfl rfl Try.func120 (by kernel_rfl) rfl #[.pointer (some ⟨g, 0, none⟩), .int .i64 3] rfl (by (try simp only [Y1, Y2, Y3]); first | done | rfl | (simp only [Y4, Y5]; rfl)) ?_; (with_reducible refine (spec_l1Once.calls g s0_0 t357 t358 3 true t361 t362 w0 _ ?side1 ?side2 A7.out).mono ?_); (case side1 => repeat (first | (with_reducible first | exact HI0.out | apply IsS105.alloc | apply IsS105.drewN | apply IsS105.drew | apply IsS105.set_1 | apply IsS105.set_2 | refine IsS105.far ?_ NB0_359.out _) | exact HI0.out)); (case side2 => repeat (first | (with_reducible first | exact HB.out | apply bA | apply bN | apply bD | refine below_set ?_ (IsS105.ge HI0.out) | refine below_set ?_ GE359.out) | exact HB.out)); rintro e w16 ⟨rfl, hi, hb, hk⟩; refine ⟨_, rfl, ?_⟩; replace HO_3 := Aside0.mk (Kd.S_mono (Kd.S_keep (IsS105.apartS (show IsS105 w0 _ g s0_0 t357 t358 from by repeat (first | (with_reducible first | exact HI0.out | apply IsS105.alloc | apply IsS105.drewN | apply IsS105.drew | apply IsS105.set_1 | apply IsS105.set_2 | refine IsS105.far ?_ NB0_359.out _) | exact HI0.out)) (by (with_reducible repeat (first | apply sA | apply sN | apply sD)); exact (Kd.S_mono (Kd.S_far (p := ⟨gb359, 2, none⟩) (Kd.S_far (p := ⟨gb359, 1, none⟩) (Kd.S_far (p := ⟨gb359, 0, none⟩) (Kd.S_mono HO_3.out (fun k_ hk => (⟨hk, hk.2⟩ : _ ∧ k_ ≠ gb359))) (fun _ hk => hk.2) (.int .i64 (wrap64 (10 + x4_1)))) (fun _ hk => hk.2) (.int .i64 (wrap64 (1 + t356)))) (fun _ hk => hk.2) (.slice none 0 0)) (fun _ h_ => h_.1))) (by decide)) hk (fun _ h => h.2)) (fun _ h => h.1)); replace BK359 := Aside0.mk (KeepBut.blk hk (g' := gb359) (o := .cells #[.int .i64 (wrap64 (10 + x4_1)), .int .i64 (wrap64 (1 + t356)), .slice none 0 0] 46 (0, 0)) (by (with_reducible repeat (first | refine kN ?_ _ | refine kD ?_ | refine kA ?_ _)); refine blk_put (cs := #[.int .i64 (wrap64 (10 + x4_1)), .int .i64 (wrap64 (1 + t356)), .slice none 0 0]) ?_ 2 _ rfl; (with_reducible repeat (first | refine kN ?_ _ | refine kD ?_ | refine kA ?_ _)); refine blk_put (cs := #[.int .i64 (wrap64 (10 + x4_1)), .int .i64 0, .slice none 0 0]) ?_ 1 _ rfl; (with_reducible repeat (first | refine kN ?_ _ | refine kD ?_ | refine kA ?_ _)); refine blk_put (cs := #[.int .i64 0, .int .i64 0, .slice none 0 0]) ?_ 0 _ rfl; (with_reducible repeat (first | refine kN ?_ _ | refine kD ?_ | refine kA ?_ _)); exact BK359.out) NB359_0.out (by simp)); replace HK := Aside0.mk (KeepBut.trans (by repeat (first | (with_reducible first | exact HK.out | apply KeepBut.set_ | apply keep_drewN | apply keep_drew | apply keep_alloc | refine keep_far ?_ GW359.out _) | exact HK.out)) hk (.inl rfl)); replace HB := Aside0.mk (hb); replace HI0 := Aside0.mk (hi); (try clear hb); (try clear hb2); (try clear hk); (try clear hi)) | ((with_reducible refine gate_callee (f := 102) rfl ?_); refine goesL_ (some 23) rfl rfl Try.func102 (by kernel_rfl) rfl #[.pointer (some ⟨g, 0, none⟩), .int .i64 6] rfl (by (try simp only [Y1, Y2, Y3]); first | done | rfl | (simp only [Y4, Y5]; rfl)) ?_; (with_reducible refine (spec_l1Below.calls g s0_0 t361 t362 6 t363 t364 t365 w0 _ ?side1 ?side2 A9.out).mono ?_); (case side1 => repeat (first | (with_reducible first | exact HI0.out | apply IsS105.alloc | apply IsS105.drewN | apply IsS105.drew | apply IsS105.set_1 | apply IsS105.set_2 | refine IsS105.far ?_ NB0_359.out _) | exact HI0.out)); (case side2 => repeat (first | (with_reducible first | exact HB.out | apply bA | apply bN | apply bD | refine below_set ?_ (IsS105.ge HI0.out) | refine below_set ?_ GE359.out) | exact HB.out)); rintro e w17 ⟨rfl, hi, hb, hk⟩; refine ⟨_, rfl, ?_⟩; replace HO_3 := Aside0.mk (Kd.S_mono (Kd.S_keep (IsS105.apartS (show IsS105 w0 _ g s0_0 t361 t362 from by repeat (first | (with_reducible first | exact HI0.out | apply IsS105.alloc | apply IsS105.drewN | apply IsS105.drew | apply IsS105.set_1 | apply IsS105.set_2 | refine IsS105.far ?_ NB0_359.out _) | exact HI0.out)) (by (with_reducible repeat (first | apply sA | apply sN | apply sD)); exact HO_3.out) (by decide)) hk (fun _ h => h.2)) (fun _ h => h.1)); replace BK359 := Aside0.mk (KeepBut.blk hk (g' := gb359) (o := .cells #[.int .i64 (wrap64 (10 + x4_1)), .int .i64 (wrap64 (1 + t356)), .slice none 0 0] 46 (0, 0)) (by (with_reducible repeat (first | refine kN ?_ _ | refine kD ?_ | refine kA ?_ _)); exact BK359.out) NB359_0.out (by simp)); replace HK := Aside0.mk (KeepBut.trans (by repeat (first | (with_reducible first | exact HK.out | apply KeepBut.set_ | apply keep_drewN | apply keep_drew | apply keep_alloc | refine keep_far ?_ GW359.out _) | exact HK.out)) hk (.inl rfl)); replace HB := Aside0.mk (hb); replace HI0 := Aside0.mk (hi); (try clear hb); (try clear hb2); (try clear hk); (try clear hi)) | ((with_reducible refine gate_dst (N := 26) rfl ?_); refine Kd.R_lit (Kd.int .i64) _ 3 ?hg (N := 26) ?hd (xs := ([wrap64 (2 * (wrap64 (1 + t363)))] : List Int)) (inner := [.int .i64 (wrap64 (2 * (wrap64 (1 + t363))))]) (ok := fun _ => True) (okp := fun _ => True) ?hr ?hp (fun _ hk => hk) trivial (Below.refl _ _) (Nat.le_refl _) (by simp) ?_; (case hd => rfl); (case hg => rfl); (case hr => first | (go_simp; done) | (go_simp; rfl)); (case hp => exact (Reps.one (show Kd.M (Kd.int .i64) _ _ _ (wrap64 (2 * (wrap64 (1 + t363)))) [.int .i64 (wrap64 (2 * (wrap64 (1 + t363))))] from rfl) (Reps.none _ _))); intro v367 w18 ho19 hb hg_ hnew_; clear hg_ hnew_; (first | rw [← Ny366.out] at ho19 | (simp only [Int.reduceToNat] at ho19; rw [← Ny366.out] at ho19)); have n0_ := Aside0.mk (Kd.S_elder' (by (with_reducible repeat (first | apply sA | apply sN | apply sD)); exact HO_3.out) (Kd.R_base ho19) hb); have n1_ := Aside0.mk (Kd.R_lower ho19 (keep_size (w := w) (g := g) (row := none) (by repeat (first | (with_reducible first | exact HK.out | apply KeepBut.set_ | apply keep_drewN | apply keep_drew | apply keep_alloc | refine keep_far ?_ GW359.out _) | exact HK.out)))); have n2_ := Aside0.mk (IsS105.below (by repeat (first | (with_reducible first | exact HI0.out | apply IsS105.alloc | apply IsS105.drewN | apply IsS105.drew | apply IsS105.set_1 | apply IsS105.set_2 | refine IsS105.far ?_ NB0_359.out _) | exact HI0.out)) hb); have n3_ := Aside0.mk (blk_below (g := gb359) (o := .cells #[.int .i64 (wrap64 (10 + x4_1)), .int .i64 (wrap64 (1 + t356)), .slice none 0 0] 46 (0, 0)) (by (with_reducible repeat (first | refine kN ?_ _ | refine kD ?_ | refine kA ?_ _)); exact BK359.out) hb); have n4_ := Aside0.mk (KeepBut.trans (by repeat (first | (with_reducible first | exact HK.out | apply KeepBut.set_ | apply keep_drewN | apply keep_drew | apply keep_alloc | refine keep_far ?_ GW359.out _) | exact HK.out)) (KeepBut.of_below hb g none) (.inl rfl)); have n5_ := Aside0.mk (below_step (by repeat (first | (with_reducible first | exact HB.out | apply bA | apply bN | apply bD | refine below_set ?_ (IsS105.ge HI0.out) | refine below_set ?_ GE359.out) | exact HB.out)) hb); clear HO_3; clear HI0; clear BK359; clear HK; clear HB; have HO_3 := n0_; have HO368 := n1_; have HI0 := n2_; have BK359 := n3_; have HK := n4_; have HB := n5_; clear n0_ n1_ n2_ n3_ n4_ n5_; clear hb ho19; obtain ⟨Ao20, co20, eo20⟩ := Kd.R_slice HO368.out; subst eo20; have hcz21_0 : w18.cell? ⟨gb359, 0, none⟩ = some (.int .i64 (wrap64 (10 + x4_1))) := (blk_cell BK359.out 0).trans rfl; have hcz21_1 : w18.cell? ⟨gb359, 1, none⟩ = some (.int .i64 (wrap64 (1 + t356))) := (blk_cell BK359.out 1).trans rfl; have hcz21_2 : w18.cell? ⟨gb359, 2, none⟩ = some (.slice none 0 0) := (blk_cell BK359.out 2).trans rfl; have hfz21_0 := blk_frozen BK359.out 0; have hfz21_1 := blk_frozen BK359.out 1; have hfz21_2 := blk_frozen BK359.out 2) | ((with_reducible refine gate_store (t := 29) (p := 27) rfl ?_); refine store_event (t := 29) (p := 27) (v := ?vo_w22) (w1 := (w18.setCell ⟨gb359, 2, none⟩ (.slice Ao20 y366.length co20))) ?hg ?ho ?hn ?hr ?_; (case ho => rfl); (case hg => rfl); (case hn => rfl); (case hr => first | (go_simp; done) | (go_simp; rfl)); intro w22 hw; have n0_ : Aside0 (Kd.S k46 46 w22 w.heap.size (fun k_ => some k_ ≠ (.slice Ao20 y366.length co20 : Value).ownBlock ∧ k_ ≠ gb359) u3 x3_1) := ⟨(by rw [hw]; exact (by (with_reducible repeat (first | apply sA | apply sN | apply sD)); exact Kd.S_mono (Kd.S_far (p := ⟨gb359, 2, none⟩) (Kd.S_mono HO_3.out (fun k_ hk => (⟨hk, hk.1.2⟩ : _ ∧ k_ ≠ gb359))) (fun _ hk => hk.2) (.slice Ao20 y366.length co20)) (fun _ hk => ⟨hk.1.2, hk.1.1.2⟩)))⟩; have n1_ : Aside0 (Kd.R (Kd.int .i64) 3 w22 w.heap.size (fun _ => True) (.slice Ao20 y366.length co20) y366) := ⟨(by rw [hw]; exact (by (with_reducible repeat (first | apply rA | apply rN | apply rD)); exact Kd.R_mono (Kd.R_far (p := ⟨gb359, 2, none⟩) (Kd.R_types HO368.out BK359.out (by decide)) (fun _ hk => hk.2) (.slice Ao20 y366.length co20)) (fun _ hk => trivial)))⟩; have n2_ : Aside0 (w22.heap[gb359]? = some (.cells #[.int .i64 (wrap64 (10 + x4_1)), .int .i64 (wrap64 (1 + t356)), .slice Ao20 y366.length co20] 46 (0, 0))) := ⟨(by rw [hw]; exact (by (with_reducible repeat (first | refine kN ?_ _ | refine kD ?_ | refine kA ?_ _)); refine blk_put (cs := #[.int .i64 (wrap64 (10 + x4_1)), .int .i64 (wrap64 (1 + t356)), .slice none 0 0]) ?_ 2 _ rfl; (with_reducible repeat (first | refine kN ?_ _ | refine kD ?_ | refine kA ?_ _)); exact BK359.out))⟩; have n3_ : Aside0 (IsS105 w0 w22 g s0_0 t364 t365) := ⟨(by rw [hw]; exact (by repeat (first | (with_reducible first | exact HI0.out | apply IsS105.alloc | apply IsS105.drewN | apply IsS105.drew | apply IsS105.set_1 | apply IsS105.set_2 | refine IsS105.far ?_ NB0_359.out _) | exact HI0.out)))⟩; have n4_ : Aside0 (KeepBut w w22 g none) := ⟨(by rw [hw]; exact (by repeat (first | (with_reducible first | exact HK.out | apply KeepBut.set_ | apply keep_drewN | apply keep_drew | apply keep_alloc | refine keep_far ?_ GW359.out _) | exact HK.out)))⟩; have n5_ : Aside0 (Below w0.heap.size w0 w22) := ⟨(by rw [hw]; exact (by repeat (first | (with_reducible first | exact HB.out | apply bA | apply bN | apply bD | refine below_set ?_ (IsS105.ge HI0.out) | refine below_set ?_ GE359.out) | exact HB.out)))⟩; clear hw; clear HO_3; clear HO368; clear BK359; clear HI0; clear HK; clear HB; have HO_3 := n0_; have HO368 := n1_; have BK359 := n2_; have HI0 := n3_; have HK := n4_; have HB := n5_; clear n0_ n1_ n2_ n3_ n4_ n5_; have hcz23_0 : w22.cell? ⟨gb359, 0, none⟩ = some (.int .i64 (wrap64 (10 + x4_1))) := (blk_cell BK359.out 0).trans rfl; have hcz23_1 : w22.cell? ⟨gb359, 1, none⟩ = some (.int .i64 (wrap64 (1 + t356))) := (blk_cell BK359.out 1).trans rfl; have hcz23_2 : w22.cell? ⟨gb359, 2, none⟩ = some (.slice Ao20 y366.length co20) := (blk_cell BK359.out 2).trans rfl; have hfz23_0 := blk_frozen BK359.out 0; have hfz23_1 := blk_frozen BK359.out 1; have hfz23_2 := blk_frozen BK359.out 2) | ((with_reducible refine gate_builtin (b := .append) (xs := #[.tmp 28, .tmp 30]) rfl ?_); at_builtin; refine Kd.S_append k46 w.heap.size rfl (.tmp 28) (.tmp 30) 25 46 (.agg #[(.int .i64 0), (.int .i64 0), (.slice none 0 0)]) 40 rfl Try.underlying25 info46 rfl (by decide) (by omega) u3 x3_1 (⟨wrap64 (10 + x4_1), wrap64 (1 + t356), y366⟩ : S46) [.int .i64 (wrap64 (10 + x4_1)), .int .i64 (wrap64 (1 + t356)), .slice Ao20 y366.length co20] (fun k_ => k_ ≠ gb359) (fun k_ => some k_ = (.slice Ao20 y366.length co20 : Value).ownBlock) rfl rfl ?aP (fun k_ hk_ => ((Kd.R_mono (ok' := fun k_ => ((fun k_ => k_ ≠ gb359)) k_ ∧ some k_ ≠ (u3 : Value).ownBlock) (Kd.R_types (Kd.R_apart' (HO368.out) (Kd.S_typed HO_3.out) (by decide)) BK359.out (by decide)) (fun k_ hk => ⟨hk.2, hk.1.2⟩))).1 k_ hk_.symm) ?aF ?aO (Below.refl _ _) ?aS ?aL ?_; (case aP => exact k46_mkM _ _ _ (⟨wrap64 (10 + x4_1), wrap64 (1 + t356), y366⟩ : S46) (Kd.R_mono (Kd.R_tight rfl (Kd.R_mono (ok' := fun k_ => ((fun k_ => k_ ≠ gb359)) k_ ∧ some k_ ≠ (u3 : Value).ownBlock) (Kd.R_types (Kd.R_apart' (HO368.out) (Kd.S_typed HO_3.out) (by decide)) BK359.out (by decide)) (fun k_ hk => ⟨hk.2, hk.1.2⟩))) (fun _ h_ => h_))); (case aF => exact (fun k_ hk => Kd.freshB (g := gb359) (o := .cells #[.int .i64 (wrap64 (10 + x4_1)), .int .i64 (wrap64 (1 + t356)), .slice Ao20 y366.length co20] 46 (0, 0)) (by (with_reducible repeat (first | refine kN ?_ _ | refine kD ?_ | refine kA ?_ _)); exact BK359.out) k_ hk)); (case aO => exact (by (with_reducible repeat (first | apply sA | apply sN | apply sD)); exact Kd.S_mono HO_3.out (fun k_ hk => ⟨hk.2, fun e_ => hk.1 e_⟩))); (case aS => exact (keep_size (w := w) (g := g) (row := none) (by repeat (first | (with_reducible first | exact HK.out | apply KeepBut.set_ | apply keep_drewN | apply keep_drew | apply keep_alloc | refine keep_far ?_ GW359.out _) | exact HK.out)))); (case aL => have := LMc10.out; omega); intro v370 w24 ho hb hg hat; rw [← Ny369.out] at ho; have n0_ := Aside0.mk (IsS105.grown (by repeat (first | (with_reducible first | exact HI0.out | apply IsS105.alloc | apply IsS105.drewN | apply IsS105.drew | apply IsS105.set_1 | apply IsS105.set_2 | refine IsS105.far ?_ NB0_359.out _) | exact HI0.out)) hg (IsS105.own_neS HI0.out HO_3.out (by decide))); have n1_ := Aside0.mk (blk_grown (g := gb359) (o := .cells #[.int .i64 (wrap64 (10 + x4_1)), .int .i64 (wrap64 (1 + t356)), .slice Ao20 y366.length co20] 46 (0, 0)) (by (with_reducible repeat (first | refine kN ?_ _ | refine kD ?_ | refine kA ?_ _)); exact BK359.out) hg (Kd.S_away HO_3.out (fun _ hk => hk.2))); have n2_ := Aside0.mk (below_weaken (by repeat (first | (with_reducible first | exact HB.out | apply bA | apply bN | apply bD | refine below_set ?_ (IsS105.ge HI0.out) | refine below_set ?_ GE359.out) | exact HB.out)) HL.out hb); have n3_ := Aside0.mk (KeepBut.trans (by repeat (first | (with_reducible first | exact HK.out | apply KeepBut.set_ | apply keep_drewN | apply keep_drew | apply keep_alloc | refine keep_far ?_ GW359.out _) | exact HK.out)) (KeepBut.of_grown hg g) (Kd.S_base2 HO_3.out)); have n4_ := Aside0.mk (ho); clear HI0; clear BK359; clear HB; clear HK; clear HO_3; clear HO368; have HI0 := n0_; have BK359 := n1_; have HB := n2_; have HK := n3_; have HO371 := n4_; clear n0_ n1_ n2_ n3_ n4_; clear ho hb hg hat))
   go_roundg k1
   case measure => have := HK1.out; omega
   case rel => exact ⟨(y369), (wrap64 (x4_1 + 1)), (t364), (t365), (by first | rfl | (simp; done) | (simp [*]; done)), H', ⟨by have := HK1.out; omega⟩, ⟨by (with_reducible repeat (first | apply sA | apply sN | apply sD)); exact Kd.S_mono HO371.out (fun _ hk => trivial)⟩, ⟨by repeat (first | (with_reducible first | exact HI0.out | apply IsS105.alloc | apply IsS105.drewN | apply IsS105.drew | apply IsS105.set_1 | apply IsS105.set_2 | refine IsS105.far ?_ NB0_359.out _) | exact HI0.out)⟩, ⟨by repeat (first | (with_reducible first | exact HK.out | apply KeepBut.set_ | apply keep_drewN | apply keep_drew | apply keep_alloc | refine keep_far ?_ GW359.out _) | exact HK.out)⟩, ⟨by repeat (first | (with_reducible first | exact HB.out | apply bA | apply bN | apply bD | refine below_set ?_ (IsS105.ge HI0.out) | refine below_set ?_ GE359.out) | exact HB.out)⟩⟩
def spec_l1Int.f (s0_0 : List Int) (s0_1 : Int) (s0_2 : Int) (l1 : List Int) : Option (Int × Int × Int) := (spec_l1Below.f s0_0 s0_1 s0_2 (l1.length : Int)).bind fun bt375 => (if 0 ≤ bt375.1 then (if bt375.1 < (l1.length : Int) then (some (rd l1 bt375.1, bt375.2.1, bt375.2.2)) else (none)) else (none))
set_option maxHeartbeats 8000000 in
set_option maxRecDepth 100000 in
theorem spec_l1Int.calls (g : Nat) (s0_0 : List Int) (s0_1 : Int) (s0_2 : Int) (A1 : Option Addr) (c1 : Nat) (l1 : List Int) (r1 : Int) (r2 : Int) (r3 : Int) (w0 w : World) (hI : IsS105 w0 w g s0_0 s0_1 s0_2) (hB : Below w0.heap.size w0 w) (hr1 : Kd.C (Kd.int .i64) w A1 l1.length l1) (hc1 : l1.length ≤ c1) (hf1 : ∀ ad, A1 = some ad → 0 < l1.length → ad.block ≠ g) (h : spec_l1Int.f s0_0 s0_1 s0_2 l1 = some (r1, r2, r3)) :
  Calls Try.prog 105 #[.pointer (some ⟨g, 0, none⟩), .slice A1 l1.length c1] w fun e w' => e = .returned (.int .i64 r1) ∧ IsS105 w0 w' g s0_0 r2 r3 ∧ Below w0.heap.size w0 w' ∧ KeepBut w w' g none := by
 have HR1 := Aside0.mk hr1
 have HC1 := Aside0.mk hc1
 clear hr1 hc1
 have HI0 := Aside0.mk hI
 have HK := Aside0.mk (KeepBut.refl w g none)
 have HL := Aside0.mk hB.size
 clear hI
 have HW0 := Aside0.mk hB.size
 have HB := Aside0.mk hB
 clear hB
 have H : ((spec_l1Below.f s0_0 s0_1 s0_2 (l1.length : Int)).bind fun bt375 => (if 0 ≤ bt375.1 then (if bt375.1 < (l1.length : Int) then (some (rd l1 bt375.1, bt375.2.1, bt375.2.2)) else (none)) else (none))) = some (r1, r2, r3) := h
 clear h
 replace H := Option.bind_eq_some_iff.mp H
 obtain ⟨⟨t375, t376, t377⟩, A30, H⟩ := H
 replace H : (if 0 ≤ t375 then (if t375 < (l1.length : Int) then (some (rd l1 t375, t376, t377)) else (none)) else (none)) = some (r1, r2, r3) := H
 have A3 := Aside0.mk A30
 clear A30
 by_cases c4 : 0 ≤ t375
 ·
  rw [if_pos c4] at H
  have c4b0 : decide (0 ≤ t375) = true := decide_eq_true c4
  clear c4
  by_cases c5 : t375 < (l1.length : Int)
  ·
   rw [if_pos c5] at H
   have c5b0 : decide (t375 < (l1.length : Int)) = true := decide_eq_true c5
   clear c5
   simp only [Option.some.injEq, Prod.mk.injEq] at H
   obtain ⟨rfl, rfl, rfl⟩ := H
   go_enter Try.func105, Try.ntmps105
   go_wp2_with (first | ((with_reducible refine gate_callee (f := 102) rfl ?_); refine goesL_ (some 9) rfl rfl Try.func102 (by kernel_rfl) rfl #[.pointer (some ⟨g, 0, none⟩), .int .i64 (l1.length : Int)] rfl (by (try simp only [List.map_toArray, List.map_cons, List.map_nil]); first | done | rfl | (simp only [List.length_drop, List.length_take]; rfl)) ?_; (with_reducible refine (spec_l1Below.calls g s0_0 s0_1 s0_2 (l1.length : Int) t375 t376 t377 w0 _ ?side1 ?side2 A3.out).mono ?_); (case side1 => repeat (first | (with_reducible first | exact HI0.out | apply IsS105.alloc | apply IsS105.drewN | apply IsS105.drew | apply IsS105.set_1 | apply IsS105.set_2) | exact HI0.out)); (case side2 => repeat (first | (with_reducible first | exact HB.out | apply below_alloc | apply pw_below_drewN | apply below_drew1 | refine below_set ?_ (IsS105.ge HI0.out)) | exact HB.out)); rintro e w6 ⟨rfl, hi, hb, hk⟩; refine ⟨_, rfl, ?_⟩; have n0_ := Aside0.mk (KeepBut.trans (by repeat (first | (with_reducible first | exact HK.out | apply KeepBut.set_ | apply keep_drewN | apply keep_drew | apply keep_alloc) | exact HK.out)) hk (.inl rfl)); have n1_ := Aside0.mk (hb); have n2_ := Aside0.mk (hi); clear HK; clear HB; clear HI0; have HK := n0_; have HB := n1_; have HI0 := n2_; clear n0_ n1_ n2_; (try clear hb); (try clear hb2); (try clear hk); (try clear hi); have p378 : 0 ≤ (t375 : Int) := of_decide_eq_true (by first | (with_reducible assumption) | assumption); have q378 : t375 < (l1.length : Int) := of_decide_eq_true (by first | (with_reducible assumption) | assumption); obtain ⟨ad378, e378, hx378_0⟩ := Kd.at_int HR1.out t375 p378 q378; cases e378; replace hx378_0 := keep_cell HK.out hx378_0 (by first | (rw [add_block]; exact hf1 _ rfl (by omega)) | exact hf1 _ rfl (by omega) | exact hf1 ad378 rfl (by omega)); replace p378 := eq_true p378; replace q378 := eq_true q378))
   go_ret
   exact ⟨by first | rfl | (simp [errW_none, errW_some] <;> rfl) | (simp [*, errW_none, errW_some] <;> rfl), by repeat (first | (with_reducible first | exact HI0.out | apply IsS105.alloc | apply IsS105.drewN | apply IsS105.drew | apply IsS105.set_1 | apply IsS105.set_2) | exact HI0.out), by repeat (first | (with_reducible first | exact HB.out | apply below_alloc | apply pw_below_drewN | apply below_drew1 | refine below_set ?_ (IsS105.ge HI0.out)) | exact HB.out), by repeat (first | (with_reducible first | exact HK.out | apply KeepBut.set_ | apply keep_drewN | apply keep_drew | apply keep_alloc) | exact HK.out)⟩
  ·
   rw [if_neg c5] at H
   exact absurd H (by simp)
 ·
  rw [if_neg c4] at H
  exact absurd H (by simp)
def spec_l21Any.f (k : Nat) (s0_0 : List Int) (s0_1 : Int) (s0_2 : Int) : Option ((List (S46)) × Int × Int) := (spec_l21Draw.f k s0_0 s0_1 s0_2).bind fun bt379 => ((spec_l1Below.f s0_0 bt379.2.1 bt379.2.2 (bt379.1.length : Int)).bind fun bt384 => ((spec_l1Below.f s0_0 bt384.2.1 bt384.2.2 12).bind fun bt387 => (if bt387.1 = 0 then ((spec_l1Int.f s0_0 bt387.2.1 bt387.2.2 (([0, 11, 99, 100] : List Int))).bind fun bt393 => (if 0 ≤ bt384.1 then (if bt384.1 < (bt379.1.length : Int) then (some ((bt379.1.set (bt384.1 : Int).toNat (⟨bt393.1, (rd_T46 bt379.1 bt384.1).f1, (rd_T46 bt379.1 bt384.1).f2⟩ : S46)), bt393.2.1, bt393.2.2)) else (none)) else (none))) else (if bt387.1 = 1 then ((spec_l1Int.f s0_0 bt387.2.1 bt387.2.2 (([0, 99, 100] : List Int))).bind fun bt400 => (if 0 ≤ bt384.1 then (if bt384.1 < (bt379.1.length : Int) then (some ((bt379.1.set (bt384.1 : Int).toNat (⟨(rd_T46 bt379.1 bt384.1).f0, bt400.1, (rd_T46 bt379.1 bt384.1).f2⟩ : S46)), bt400.2.1, bt400.2.2)) else (none)) else (none))) else (if bt387.1 = 2 then (if 0 ≤ bt384.1 then (if bt384.1 < (bt379.1.length : Int) then (some ((bt379.1.set (bt384.1 : Int).toNat (⟨(rd_T46 bt379.1 bt384.1).f0, (rd_T46 bt379.1 bt384.1).f1, (([4, 4] : List Int))⟩ : S46)), bt387.2.1, bt387.2.2)) else (none)) else (none)) else (some (bt379.1, bt387.2.1, bt387.2.2)))))))
set_option maxHeartbeats 8000000 in
set_option maxRecDepth 100000 in
theorem spec_l21Any.calls (k : Nat) (g : Nat) (s0_0 : List Int) (s0_1 : Int) (s0_2 : Int) (r1 : List (S46)) (r2 : Int) (r3 : Int) (w0 w : World) (hI : IsS105 w0 w g s0_0 s0_1 s0_2) (hB : Below w0.heap.size w0 w) (h : spec_l21Any.f k s0_0 s0_1 s0_2 = some (r1, r2, r3)) :
  Calls Try.prog 92 #[.pointer (some ⟨g, 0, none⟩)] w fun e w' => ∃ v0_ : Value, e = .returned (v0_) ∧ Kd.S k46 46 w' w.heap.size (fun _ => True) v0_ r1 ∧ IsS105 w0 w' g s0_0 r2 r3 ∧ Below w0.heap.size w0 w' ∧ KeepBut w w' g none := by
 have HI0 := Aside0.mk hI
 have HK := Aside0.mk (KeepBut.refl w g none)
 have HL := Aside0.mk hB.size
 clear hI
 have HW0 := Aside0.mk hB.size
 have HB := Aside0.mk hB
 clear hB
 have H : ((spec_l21Draw.f k s0_0 s0_1 s0_2).bind fun bt379 => ((spec_l1Below.f s0_0 bt379.2.1 bt379.2.2 (bt379.1.length : Int)).bind fun bt384 => ((spec_l1Below.f s0_0 bt384.2.1 bt384.2.2 12).bind fun bt387 => (if bt387.1 = 0 then ((spec_l1Int.f s0_0 bt387.2.1 bt387.2.2 (([0, 11, 99, 100] : List Int))).bind fun bt393 => (if 0 ≤ bt384.1 then (if bt384.1 < (bt379.1.length : Int) then (some ((bt379.1.set (bt384.1 : Int).toNat (⟨bt393.1, (rd_T46 bt379.1 bt384.1).f1, (rd_T46 bt379.1 bt384.1).f2⟩ : S46)), bt393.2.1, bt393.2.2)) else (none)) else (none))) else (if bt387.1 = 1 then ((spec_l1Int.f s0_0 bt387.2.1 bt387.2.2 (([0, 99, 100] : List Int))).bind fun bt400 => (if 0 ≤ bt384.1 then (if bt384.1 < (bt379.1.length : Int) then (some ((bt379.1.set (bt384.1 : Int).toNat (⟨(rd_T46 bt379.1 bt384.1).f0, bt400.1, (rd_T46 bt379.1 bt384.1).f2⟩ : S46)), bt400.2.1, bt400.2.2)) else (none)) else (none))) else (if bt387.1 = 2 then (if 0 ≤ bt384.1 then (if bt384.1 < (bt379.1.length : Int) then (some ((bt379.1.set (bt384.1 : Int).toNat (⟨(rd_T46 bt379.1 bt384.1).f0, (rd_T46 bt379.1 bt384.1).f1, (([4, 4] : List Int))⟩ : S46)), bt387.2.1, bt387.2.2)) else (none)) else (none)) else (some (bt379.1, bt387.2.1, bt387.2.2)))))))) = some (r1, r2, r3) := h
 clear h
 replace H := Option.bind_eq_some_iff.mp H
 obtain ⟨⟨t379, t382, t383⟩, A20, H⟩ := H
 replace H : ((spec_l1Below.f s0_0 t382 t383 (t379.length : Int)).bind fun bt384 => ((spec_l1Below.f s0_0 bt384.2.1 bt384.2.2 12).bind fun bt387 => (if bt387.1 = 0 then ((spec_l1Int.f s0_0 bt387.2.1 bt387.2.2 (([0, 11, 99, 100] : List Int))).bind fun bt393 => (if 0 ≤ bt384.1 then (if bt384.1 < (t379.length : Int) then (some ((t379.set (bt384.1 : Int).toNat (⟨bt393.1, (rd_T46 t379 bt384.1).f1, (rd_T46 t379 bt384.1).f2⟩ : S46)), bt393.2.1, bt393.2.2)) else (none)) else (none))) else (if bt387.1 = 1 then ((spec_l1Int.f s0_0 bt387.2.1 bt387.2.2 (([0, 99, 100] : List Int))).bind fun bt400 => (if 0 ≤ bt384.1 then (if bt384.1 < (t379.length : Int) then (some ((t379.set (bt384.1 : Int).toNat (⟨(rd_T46 t379 bt384.1).f0, bt400.1, (rd_T46 t379 bt384.1).f2⟩ : S46)), bt400.2.1, bt400.2.2)) else (none)) else (none))) else (if bt387.1 = 2 then (if 0 ≤ bt384.1 then (if bt384.1 < (t379.length : Int) then (some ((t379.set (bt384.1 : Int).toNat (⟨(rd_T46 t379 bt384.1).f0, (rd_T46 t379 bt384.1).f1, (([4, 4] : List Int))⟩ : S46)), bt387.2.1, bt387.2.2)) else (none)) else (none)) else (some (t379, bt387.2.1, bt387.2.2))))))) = some (r1, r2, r3) := H
 have A2 := Aside0.mk A20
 clear A20
 replace H := Option.bind_eq_some_iff.mp H
 obtain ⟨⟨t384, t385, t386⟩, A30, H⟩ := H
 replace H : ((spec_l1Below.f s0_0 t385 t386 12).bind fun bt387 => (if bt387.1 = 0 then ((spec_l1Int.f s0_0 bt387.2.1 bt387.2.2 (([0, 11, 99, 100] : List Int))).bind fun bt393 => (if 0 ≤ t384 then (if t384 < (t379.length : Int) then (some ((t379.set (t384 : Int).toNat (⟨bt393.1, (rd_T46 t379 t384).f1, (rd_T46 t379 t384).f2⟩ : S46)), bt393.2.1, bt393.2.2)) else (none)) else (none))) else (if bt387.1 = 1 then ((spec_l1Int.f s0_0 bt387.2.1 bt387.2.2 (([0, 99, 100] : List Int))).bind fun bt400 => (if 0 ≤ t384 then (if t384 < (t379.length : Int) then (some ((t379.set (t384 : Int).toNat (⟨(rd_T46 t379 t384).f0, bt400.1, (rd_T46 t379 t384).f2⟩ : S46)), bt400.2.1, bt400.2.2)) else (none)) else (none))) else (if bt387.1 = 2 then (if 0 ≤ t384 then (if t384 < (t379.length : Int) then (some ((t379.set (t384 : Int).toNat (⟨(rd_T46 t379 t384).f0, (rd_T46 t379 t384).f1, (([4, 4] : List Int))⟩ : S46)), bt387.2.1, bt387.2.2)) else (none)) else (none)) else (some (t379, bt387.2.1, bt387.2.2)))))) = some (r1, r2, r3) := H
 have A3 := Aside0.mk A30
 clear A30
 replace H := Option.bind_eq_some_iff.mp H
 obtain ⟨⟨t387, t388, t389⟩, A40, H⟩ := H
 replace H : (if t387 = 0 then ((spec_l1Int.f s0_0 t388 t389 (([0, 11, 99, 100] : List Int))).bind fun bt393 => (if 0 ≤ t384 then (if t384 < (t379.length : Int) then (some ((t379.set (t384 : Int).toNat (⟨bt393.1, (rd_T46 t379 t384).f1, (rd_T46 t379 t384).f2⟩ : S46)), bt393.2.1, bt393.2.2)) else (none)) else (none))) else (if t387 = 1 then ((spec_l1Int.f s0_0 t388 t389 (([0, 99, 100] : List Int))).bind fun bt400 => (if 0 ≤ t384 then (if t384 < (t379.length : Int) then (some ((t379.set (t384 : Int).toNat (⟨(rd_T46 t379 t384).f0, bt400.1, (rd_T46 t379 t384).f2⟩ : S46)), bt400.2.1, bt400.2.2)) else (none)) else (none))) else (if t387 = 2 then (if 0 ≤ t384 then (if t384 < (t379.length : Int) then (some ((t379.set (t384 : Int).toNat (⟨(rd_T46 t379 t384).f0, (rd_T46 t379 t384).f1, (([4, 4] : List Int))⟩ : S46)), t388, t389)) else (none)) else (none)) else (some (t379, t388, t389))))) = some (r1, r2, r3) := H
 have A4 := Aside0.mk A40
 clear A40
 by_cases c5 : t387 = 0
 rotate_left
 ·
  rw [if_neg c5] at H
  have c5b0 : (t387 == 0) = false := beq_eq_false_iff_ne.mpr c5
  have c5b1 : (t387 != 0) = true := bne_iff_ne.mpr c5
  by_cases c20 : t387 = 1
  rotate_left
  ·
   rw [if_neg c20] at H
   have c20b0 : (t387 == 1) = false := beq_eq_false_iff_ne.mpr c20
   have c20b1 : (t387 != 1) = true := bne_iff_ne.mpr c20
   by_cases c35 : t387 = 2
   rotate_left
   ·
    rw [if_neg c35] at H
    have c35b0 : (t387 == 2) = false := beq_eq_false_iff_ne.mpr c35
    have c35b1 : (t387 != 2) = true := bne_iff_ne.mpr c35
    simp only [Option.some.injEq, Prod.mk.injEq] at H
    obtain ⟨rfl, rfl, rfl⟩ := H
    go_enter Try.func92, Try.ntmps92
    go_wp2_with (first | ((with_reducible refine gate_callee (f := 104) rfl ?_); refine goesL_ (some 6) rfl rfl Try.func104 (by kernel_rfl) rfl #[.pointer (some ⟨g, 0, none⟩)] rfl (by (try simp only [Y1, Y2, Y3]); first | done | rfl | (simp only [Y4, Y5]; rfl)) ?_; (with_reducible refine (spec_l21Draw.calls k g s0_0 s0_1 s0_2 t379 t382 t383 w0 _ ?side1 ?side2 A2.out).mono ?_); (case side1 => repeat (first | (with_reducible first | exact HI0.out | apply IsS105.alloc | apply IsS105.drewN | apply IsS105.drew | apply IsS105.set_1 | apply IsS105.set_2) | exact HI0.out)); (case side2 => repeat (first | (with_reducible first | exact HB.out | apply bA | apply bN | apply bD | refine below_set ?_ (IsS105.ge HI0.out)) | exact HB.out)); rintro e w47 ⟨v380, rfl, ho0, hi, hb, hk⟩; refine ⟨_, rfl, ?_⟩; replace HO381 := Aside0.mk (Kd.S_lower ho0 (keep_size (w := w) (g := g) (row := none) (by repeat (first | (with_reducible first | exact HK.out | apply KeepBut.set_ | apply keep_drewN | apply keep_drew | apply keep_alloc) | exact HK.out)))); replace HK := Aside0.mk (KeepBut.trans (by repeat (first | (with_reducible first | exact HK.out | apply KeepBut.set_ | apply keep_drewN | apply keep_drew | apply keep_alloc) | exact HK.out)) hk (.inl rfl)); replace HB := Aside0.mk (hb); replace HI0 := Aside0.mk (hi); (try clear hb); (try clear hb2); (try clear hk); (try clear hi); (try clear ho0); obtain ⟨Ao48, co48, eo48⟩ := Kd.S_slice HO381.out; subst eo48) | ((with_reducible refine gate_callee (f := 102) rfl ?_); refine goesL_ (some 10) rfl rfl Try.func102 (by kernel_rfl) rfl #[.pointer (some ⟨g, 0, none⟩), .int .i64 (t379.length : Int)] rfl (by (try simp only [Y1, Y2, Y3]); first | done | rfl | (simp only [Y4, Y5]; rfl)) ?_; (with_reducible refine (spec_l1Below.calls g s0_0 t382 t383 (t379.length : Int) t384 t385 t386 w0 _ ?side1 ?side2 A3.out).mono ?_); (case side1 => repeat (first | (with_reducible first | exact HI0.out | apply IsS105.alloc | apply IsS105.drewN | apply IsS105.drew | apply IsS105.set_1 | apply IsS105.set_2) | exact HI0.out)); (case side2 => repeat (first | (with_reducible first | exact HB.out | apply bA | apply bN | apply bD | refine below_set ?_ (IsS105.ge HI0.out)) | exact HB.out)); rintro e w49 ⟨rfl, hi, hb, hk⟩; refine ⟨_, rfl, ?_⟩; replace HO381 := Aside0.mk (Kd.S_mono (Kd.S_keep (IsS105.apartS (show IsS105 w0 _ g s0_0 t382 t383 from by repeat (first | (with_reducible first | exact HI0.out | apply IsS105.alloc | apply IsS105.drewN | apply IsS105.drew | apply IsS105.set_1 | apply IsS105.set_2) | exact HI0.out)) (by (with_reducible repeat (first | apply sA | apply sN | apply sD)); exact HO381.out) (by decide)) hk (fun _ h => h.2)) (fun _ h => h.1)); replace HK := Aside0.mk (KeepBut.trans (by repeat (first | (with_reducible first | exact HK.out | apply KeepBut.set_ | apply keep_drewN | apply keep_drew | apply keep_alloc) | exact HK.out)) hk (.inl rfl)); replace HB := Aside0.mk (hb); replace HI0 := Aside0.mk (hi); (try clear hb); (try clear hb2); (try clear hk); (try clear hi)) | ((with_reducible refine gate_callee (f := 102) rfl ?_); refine goesL_ (some 12) rfl rfl Try.func102 (by kernel_rfl) rfl #[.pointer (some ⟨g, 0, none⟩), .int .i64 12] rfl (by (try simp only [Y1, Y2, Y3]); first | done | rfl | (simp only [Y4, Y5]; rfl)) ?_; (with_reducible refine (spec_l1Below.calls g s0_0 t385 t386 12 t387 t388 t389 w0 _ ?side1 ?side2 A4.out).mono ?_); (case side1 => repeat (first | (with_reducible first | exact HI0.out | apply IsS105.alloc | apply IsS105.drewN | apply IsS105.drew | apply IsS105.set_1 | apply IsS105.set_2) | exact HI0.out)); (case side2 => repeat (first | (with_reducible first | exact HB.out | apply bA | apply bN | apply bD | refine below_set ?_ (IsS105.ge HI0.out)) | exact HB.out)); rintro e w50 ⟨rfl, hi, hb, hk⟩; refine ⟨_, rfl, ?_⟩; replace HO381 := Aside0.mk (Kd.S_mono (Kd.S_keep (IsS105.apartS (show IsS105 w0 _ g s0_0 t385 t386 from by repeat (first | (with_reducible first | exact HI0.out | apply IsS105.alloc | apply IsS105.drewN | apply IsS105.drew | apply IsS105.set_1 | apply IsS105.set_2) | exact HI0.out)) (by (with_reducible repeat (first | apply sA | apply sN | apply sD)); exact HO381.out) (by decide)) hk (fun _ h => h.2)) (fun _ h => h.1)); replace HK := Aside0.mk (KeepBut.trans (by repeat (first | (with_reducible first | exact HK.out | apply KeepBut.set_ | apply keep_drewN | apply keep_drew | apply keep_alloc) | exact HK.out)) hk (.inl rfl)); replace HB := Aside0.mk (hb); replace HI0 := Aside0.mk (hi); (try clear hb); (try clear hb2); (try clear hk); (try clear hi)))
    all_goals (go_ret; exact ⟨_, by first | rfl | (simp [*, errW_none, errW_some] <;> rfl), by (with_reducible repeat (first | apply sA | apply sN | apply sD)); exact HO381.out, by repeat (first | (with_reducible first | exact HI0.out | apply IsS105.alloc | apply IsS105.drewN | apply IsS105.drew | apply IsS105.set_1 | apply IsS105.set_2) | exact HI0.out), by repeat (first | (with_reducible first | exact HB.out | apply bA | apply bN | apply bD | refine below_set ?_ (IsS105.ge HI0.out)) | exact HB.out), by repeat (first | (with_reducible first | exact HK.out | apply KeepBut.set_ | apply keep_drewN | apply keep_drew | apply keep_alloc) | exact HK.out)⟩)

   rw [if_pos c35] at H
   have c35b0 : (t387 == 2) = true := beq_iff_eq.mpr c35
   have c35b1 : (t387 != 2) = false := bne_eq_false_iff_eq.mpr c35
   clear c35
   obtain ⟨y404, hy404⟩ : ∃ y_ : List Int, y_ = (([4, 4] : List Int)) := ⟨_, rfl⟩
   replace H : (if 0 ≤ t384 then (if t384 < (t379.length : Int) then (some ((t379.set (t384 : Int).toNat (⟨(rd_T46 t379 t384).f0, (rd_T46 t379 t384).f1, y404⟩ : S46)), t388, t389)) else (none)) else (none)) = some (r1, r2, r3) := by first | (rw [hy404]; with_reducible exact H) | (have H2_ := (Option.bind_some _ _).symm.trans H; rw [hy404]; with_reducible exact H2_) | (have H2_ := (Option.bind_some _ _).symm.trans H; with_reducible exact H2_) | with_reducible exact H | (rw [hy404]; exact H) | exact H
   have Ny404 := Aside0.mk hy404
   clear hy404
   by_cases c36 : 0 ≤ t384
   rotate_left
   ·
    rw [if_neg c36] at H
    exact absurd H (by simp)
   rw [if_pos c36] at H
   have c36b0 : decide (0 ≤ t384) = true := decide_eq_true c36
   clear c36
   by_cases c37 : t384 < (t379.length : Int)
   rotate_left
   ·
    rw [if_neg c37] at H
    exact absurd H (by simp)
   rw [if_pos c37] at H
   have c37b0 : decide (t384 < (t379.length : Int)) = true := decide_eq_true c37
   clear c37
   obtain ⟨y407, hy407⟩ : ∃ y_ : List (S46), y_ = (t379.set (t384 : Int).toNat (⟨(rd_T46 t379 t384).f0, (rd_T46 t379 t384).f1, y404⟩ : S46)) := ⟨_, rfl⟩
   replace H : (some (y407, t388, t389)) = some (r1, r2, r3) := by first | (rw [hy407]; with_reducible exact H) | (have H2_ := (Option.bind_some _ _).symm.trans H; rw [hy407]; with_reducible exact H2_) | (have H2_ := (Option.bind_some _ _).symm.trans H; with_reducible exact H2_) | with_reducible exact H | (rw [hy407]; exact H) | exact H
   have Ny407 := Aside0.mk hy407
   clear hy407
   simp only [Option.some.injEq, Prod.mk.injEq] at H
   obtain ⟨rfl, rfl, rfl⟩ := H
   go_enter Try.func92, Try.ntmps92
   go_wp2_with (first | ((with_reducible refine gate_callee (f := 104) rfl ?_); refine goesL_ (some 6) rfl rfl Try.func104 (by kernel_rfl) rfl #[.pointer (some ⟨g, 0, none⟩)] rfl (by (try simp only [Y1, Y2, Y3]); first | done | rfl | (simp only [Y4, Y5]; rfl)) ?_; (with_reducible refine (spec_l21Draw.calls k g s0_0 s0_1 s0_2 t379 t382 t383 w0 _ ?side1 ?side2 A2.out).mono ?_); (case side1 => repeat (first | (with_reducible first | exact HI0.out | apply IsS105.alloc | apply IsS105.drewN | apply IsS105.drew | apply IsS105.set_1 | apply IsS105.set_2) | exact HI0.out)); (case side2 => repeat (first | (with_reducible first | exact HB.out | apply bA | apply bN | apply bD | refine below_set ?_ (IsS105.ge HI0.out)) | exact HB.out)); rintro e w39 ⟨v380, rfl, ho0, hi, hb, hk⟩; refine ⟨_, rfl, ?_⟩; replace HO381 := Aside0.mk (Kd.S_lower ho0 (keep_size (w := w) (g := g) (row := none) (by repeat (first | (with_reducible first | exact HK.out | apply KeepBut.set_ | apply keep_drewN | apply keep_drew | apply keep_alloc) | exact HK.out)))); replace HK := Aside0.mk (KeepBut.trans (by repeat (first | (with_reducible first | exact HK.out | apply KeepBut.set_ | apply keep_drewN | apply keep_drew | apply keep_alloc) | exact HK.out)) hk (.inl rfl)); replace HB := Aside0.mk (hb); replace HI0 := Aside0.mk (hi); (try clear hb); (try clear hb2); (try clear hk); (try clear hi); (try clear ho0); obtain ⟨Ao40, co40, eo40⟩ := Kd.S_slice HO381.out; subst eo40) | ((with_reducible refine gate_callee (f := 102) rfl ?_); refine goesL_ (some 10) rfl rfl Try.func102 (by kernel_rfl) rfl #[.pointer (some ⟨g, 0, none⟩), .int .i64 (t379.length : Int)] rfl (by (try simp only [Y1, Y2, Y3]); first | done | rfl | (simp only [Y4, Y5]; rfl)) ?_; (with_reducible refine (spec_l1Below.calls g s0_0 t382 t383 (t379.length : Int) t384 t385 t386 w0 _ ?side1 ?side2 A3.out).mono ?_); (case side1 => repeat (first | (with_reducible first | exact HI0.out | apply IsS105.alloc | apply IsS105.drewN | apply IsS105.drew | apply IsS105.set_1 | apply IsS105.set_2) | exact HI0.out)); (case side2 => repeat (first | (with_reducible first | exact HB.out | apply bA | apply bN | apply bD | refine below_set ?_ (IsS105.ge HI0.out)) | exact HB.out)); rintro e w41 ⟨rfl, hi, hb, hk⟩; refine ⟨_, rfl, ?_⟩; replace HO381 := Aside0.mk (Kd.S_mono (Kd.S_keep (IsS105.apartS (show IsS105 w0 _ g s0_0 t382 t383 from by repeat (first | (with_reducible first | exact HI0.out | apply IsS105.alloc | apply IsS105.drewN | apply IsS105.drew | apply IsS105.set_1 | apply IsS105.set_2) | exact HI0.out)) (by (with_reducible repeat (first | apply sA | apply sN | apply sD)); exact HO381.out) (by decide)) hk (fun _ h => h.2)) (fun _ h => h.1)); replace HK := Aside0.mk (KeepBut.trans (by repeat (first | (with_reducible first | exact HK.out | apply KeepBut.set_ | apply keep_drewN | apply keep_drew | apply keep_alloc) | exact HK.out)) hk (.inl rfl)); replace HB := Aside0.mk (hb); replace HI0 := Aside0.mk (hi); (try clear hb); (try clear hb2); (try clear hk); (try clear hi)) | ((with_reducible refine gate_callee (f := 102) rfl ?_); refine goesL_ (some 12) rfl rfl Try.func102 (by kernel_rfl) rfl #[.pointer (some ⟨g, 0, none⟩), .int .i64 12] rfl (by (try simp only [Y1, Y2, Y3]); first | done | rfl | (simp only [Y4, Y5]; rfl)) ?_; (with_reducible refine (spec_l1Below.calls g s0_0 t385 t386 12 t387 t388 t389 w0 _ ?side1 ?side2 A4.out).mono ?_); (case side1 => repeat (first | (with_reducible first | exact HI0.out | apply IsS105.alloc | apply IsS105.drewN | apply IsS105.drew | apply IsS105.set_1 | apply IsS105.set_2) | exact HI0.out)); (case side2 => repeat (first | (with_reducible first | exact HB.out | apply bA | apply bN | apply bD | refine below_set ?_ (IsS105.ge HI0.out)) | exact HB.out)); rintro e w42 ⟨rfl, hi, hb, hk⟩; refine ⟨_, rfl, ?_⟩; replace HO381 := Aside0.mk (Kd.S_mono (Kd.S_keep (IsS105.apartS (show IsS105 w0 _ g s0_0 t385 t386 from by repeat (first | (with_reducible first | exact HI0.out | apply IsS105.alloc | apply IsS105.drewN | apply IsS105.drew | apply IsS105.set_1 | apply IsS105.set_2) | exact HI0.out)) (by (with_reducible repeat (first | apply sA | apply sN | apply sD)); exact HO381.out) (by decide)) hk (fun _ h => h.2)) (fun _ h => h.1)); replace HK := Aside0.mk (KeepBut.trans (by repeat (first | (with_reducible first | exact HK.out | apply KeepBut.set_ | apply keep_drewN | apply keep_drew | apply keep_alloc) | exact HK.out)) hk (.inl rfl)); replace HB := Aside0.mk (hb); replace HI0 := Aside0.mk (hi); (try clear hb); (try clear hb2); (try clear hk); (try clear hi)) | ((with_reducible refine gate_dst (N := 35) rfl ?_); refine Kd.R_lit (Kd.int .i64) _ 3 ?hg (N := 35) ?hd (xs := ([4, 4] : List Int)) (inner := [.int .i64 4, .int .i64 4]) (ok := fun _ => True) (okp := fun _ => True) ?hr ?hp (fun _ hk => hk) trivial (Below.refl _ _) (Nat.le_refl _) (by simp) ?_; (case hd => rfl); (case hg => rfl); (case hr => first | (go_simp; done) | (go_simp; rfl)); (case hp => exact (Reps.one (show Kd.M (Kd.int .i64) _ _ _ 4 [.int .i64 4] from rfl) (Reps.one (show Kd.M (Kd.int .i64) _ _ _ 4 [.int .i64 4] from rfl) (Reps.none _ _)))); intro v405 w43 ho44 hb hg_ hnew_; clear hg_ hnew_; (first | rw [← Ny404.out] at ho44 | (simp only [Int.reduceToNat] at ho44; rw [← Ny404.out] at ho44)); have n0_ := Aside0.mk (Kd.S_elder' (by (with_reducible repeat (first | apply sA | apply sN | apply sD)); exact HO381.out) (Kd.R_base ho44) hb); have n1_ := Aside0.mk (Kd.R_lower ho44 (keep_size (w := w) (g := g) (row := none) (by repeat (first | (with_reducible first | exact HK.out | apply KeepBut.set_ | apply keep_drewN | apply keep_drew | apply keep_alloc) | exact HK.out)))); have n2_ := Aside0.mk (IsS105.below (by repeat (first | (with_reducible first | exact HI0.out | apply IsS105.alloc | apply IsS105.drewN | apply IsS105.drew | apply IsS105.set_1 | apply IsS105.set_2) | exact HI0.out)) hb); have n3_ := Aside0.mk (KeepBut.trans (by repeat (first | (with_reducible first | exact HK.out | apply KeepBut.set_ | apply keep_drewN | apply keep_drew | apply keep_alloc) | exact HK.out)) (KeepBut.of_below hb g none) (.inl rfl)); have n4_ := Aside0.mk (below_step (by repeat (first | (with_reducible first | exact HB.out | apply bA | apply bN | apply bD | refine below_set ?_ (IsS105.ge HI0.out)) | exact HB.out)) hb); clear HO381; clear HI0; clear HK; clear HB; have HO381 := n0_; have HO406 := n1_; have HI0 := n2_; have HK := n3_; have HB := n4_; clear n0_ n1_ n2_ n3_ n4_; clear hb ho44; have p38 : 0 ≤ (t384 : Int) := od (by assumption); have q38 : (t384 : Int) < ((t379.length : Int) : Int) := od (by assumption); obtain ⟨go38, co38, eo38, gb38, gl38, cl38, HG38⟩ := Kd.S_form HO381.out (by omega); (first | cases eo38 | (injection eo38 with ea_ en_ ec_; (first | subst ea_ | (injection ea_ with ea_; subst ea_)); subst ec_; clear en_)); have GB38 := Aside0.mk gb38; have GG38 := Aside0.mk HG38; clear gb38 gl38 HG38; obtain ⟨_, ce38, hcl38, hM38, hcc38, hfr38, _, _⟩ := Kd.S_elem HO381.out z46 (t384 : Int) p38 q38; obtain ⟨ve38_2, rfl, ge38_2⟩ := k46_openM hM38; have hx38_0 : w43.cell? ⟨go38, (t384 : Int).toNat * 3, none⟩ = some (.int .i64 ((rd_T46 t379 t384).f0)) := hcc38 0 _ rfl; have hx38_1 : w43.cell? ⟨go38, (t384 : Int).toNat * 3 + 1, none⟩ = some (.int .i64 ((rd_T46 t379 t384).f1)) := hcc38 1 _ rfl; have hx38_2 : w43.cell? ⟨go38, (t384 : Int).toNat * 3 + 2, none⟩ = some (ve38_2) := hcc38 2 _ rfl; have hf38_0 : w43.frozen? ⟨go38, (t384 : Int).toNat * 3, none⟩ = false := hfr38 0; have hf38_1 : w43.frozen? ⟨go38, (t384 : Int).toNat * 3 + 1, none⟩ = false := hfr38 1; have hf38_2 : w43.frozen? ⟨go38, (t384 : Int).toNat * 3 + 2, none⟩ = false := hfr38 2; (try clear hcl38); (try clear hcc38); (try clear hfr38); (try clear hM38); replace p38 := eq_true p38; replace q38 := eq_true q38; have n_ := Aside0.mk (Kd.S_mono (ok' := (fun k_ => some k_ ≠ (v405 : Value).ownBlock)) HO381.out (fun k_ hk => hk.2)); clear HO381; have HO381 := n_; clear n_; have HX45 := Aside0.mk (show Kd.S k46 46 w43 w.heap.size (fun k_ => ((fun _ => True)) k_ ∧ ¬ ((fun k_ => some k_ = (v405 : Value).ownBlock)) k_) (.slice (some ⟨go38, 0, none⟩) t379.length co40) t379 from (by (with_reducible repeat (first | apply sA | apply sN | apply sD)); exact Kd.S_mono HO381.out (fun k_ hk => ⟨trivial, fun e_ => hk e_⟩))); obtain ⟨oki45, ce45, hcl45, hM45, hcc45, hfr45, hoki45, hH45⟩ := Kd.S_elem HX45.out z46 (t384 : Int) (od (by assumption)) (by have h_ : (t384 : Int) < ((t379.length : Int) : Int) := od (by assumption); first | exact h_ | (have e_ := (Kd.S_reads' HO381.out).1; omega) | simpa using h_); obtain ⟨ve45_2, rfl, ge45_2⟩ := k46_openM hM45; have HP45 := Kd.S_seg hH45 (od (by assumption)) (by have h_ : (t384 : Int) < ((t379.length : Int) : Int) := od (by assumption); first | exact h_ | (have e_ := (Kd.S_reads' HO381.out).1; omega) | simpa using h_) (seg := [v405]) (j := 2) (show 3 ≤ 3 from by decide) (x' := (⟨(rd_T46 t379 t384).f0, (rd_T46 t379 t384).f1, y404⟩ : S46)) (k46_mkM _ _ _ (⟨(rd_T46 t379 t384).f0, (rd_T46 t379 t384).f1, y404⟩ : S46) (Kd.R_mono (Kd.R_tight rfl (Kd.R_mono (ok' := fun k_ => ((fun _ => True)) k_ ∧ k_ ≠ go38) (Kd.R_apart' (HO406.out) (Kd.S_typed HO381.out) (by decide)) (fun k_ hk => ⟨trivial, fun e_ => (hk.2) (by rw [e_]; rfl)⟩))) (fun _ h_ => Or.inr (h_)))) (fun _ hk => hk) (fun k_ hk_ => ((Kd.R_mono (ok' := fun k_ => ((fun _ => True)) k_ ∧ k_ ≠ go38) (Kd.R_apart' (HO406.out) (Kd.S_typed HO381.out) (by decide)) (fun k_ hk => ⟨trivial, fun e_ => (hk.2) (by rw [e_]; rfl)⟩))).1 k_ hk_.symm); have hx45_2 := hcc45 2 _ rfl; (try simp only [show (k46).sz = 3 from rfl, Nat.mul_one, Nat.add_zero] at hx45_2); have hf45_2 := hfr45 2; (try simp only [show (k46).sz = 3 from rfl, Nat.mul_one, Nat.add_zero] at hf45_2); (try clear hcl45); (try clear hcc45); (try clear hfr45); (try clear hM45); (try clear hoki45); (try clear hH45)) | ((with_reducible refine gate_store (t := 29) (p := 37) rfl ?_); refine store_event (t := 29) (p := 37) (v := ?vo_w46) (w1 := (w43.setCell ⟨go38, (t384 : Int).toNat * 3 + 2, none⟩ (v405))) ?hg ?ho ?hn ?hr ?_; (case ho => rfl); (case hg => rfl); (case hn => rfl); (case hr => first | (go_simp; done) | (go_simp; rfl) | (obtain ⟨_, _, e_⟩ := Kd.R_slice HO406.out; subst e_; first | (go_simp; done) | (go_simp; rfl))); intro w46 hw; have hg : w43.grownBy w46 (some go38) := (by rw [hw]; exact HP45.2); have hp_ : Kd.S k46 46 w46 w.heap.size (fun _ => True) (.slice (some ⟨go38, 0, none⟩) t379.length co40) y407 := (by rw [hw, Ny407.out]; exact HP45.1); clear HP45; have n0_ := Aside0.mk (IsS105.grown (by repeat (first | (with_reducible first | exact HI0.out | apply IsS105.alloc | apply IsS105.drewN | apply IsS105.drew | apply IsS105.set_1 | apply IsS105.set_2) | exact HI0.out)) hg (IsS105.own_neS HI0.out HO381.out (by decide))); have n1_ := Aside0.mk (hp_); have n2_ := Aside0.mk ((by rw [hw]; exact below_set (HB.out) (Nat.le_trans HL.out GB38.out) : Below w0.heap.size w0 w46)); have n3_ := Aside0.mk (KeepBut.trans (by repeat (first | (with_reducible first | exact HK.out | apply KeepBut.set_ | apply keep_drewN | apply keep_drew | apply keep_alloc) | exact HK.out)) (KeepBut.of_grown hg g) (Kd.S_base2 HO381.out)); clear HI0; clear HO381; clear HB; clear HK; clear HO406; have HI0 := n0_; have HO381 := n1_; have HB := n2_; have HK := n3_; clear n0_ n1_ n2_ n3_; clear hg hw hp_))
   all_goals (go_ret; exact ⟨_, by first | rfl | (simp [*, errW_none, errW_some] <;> rfl), by (with_reducible repeat (first | apply sA | apply sN | apply sD)); exact HO381.out, by repeat (first | (with_reducible first | exact HI0.out | apply IsS105.alloc | apply IsS105.drewN | apply IsS105.drew | apply IsS105.set_1 | apply IsS105.set_2) | exact HI0.out), by repeat (first | (with_reducible first | exact HB.out | apply bA | apply bN | apply bD | refine below_set ?_ (IsS105.ge HI0.out)) | exact HB.out), by repeat (first | (with_reducible first | exact HK.out | apply KeepBut.set_ | apply keep_drewN | apply keep_drew | apply keep_alloc) | exact HK.out)⟩)
  rw [if_pos c20] at H
  have c20b0 : (t387 == 1) = true := beq_iff_eq.mpr c20
  have c20b1 : (t387 != 1) = false := bne_eq_false_iff_eq.mpr c20
  clear c20
  obtain ⟨y397, hy397⟩ : ∃ y_ : List Int, y_ = (([0, 99, 100] : List Int)) := ⟨_, rfl⟩
  replace H : ((spec_l1Int.f s0_0 t388 t389 y397).bind fun bt400 => (if 0 ≤ t384 then (if t384 < (t379.length : Int) then (some ((t379.set (t384 : Int).toNat (⟨(rd_T46 t379 t384).f0, bt400.1, (rd_T46 t379 t384).f2⟩ : S46)), bt400.2.1, bt400.2.2)) else (none)) else (none))) = some (r1, r2, r3) := by first | (rw [hy397]; with_reducible exact H) | (have H2_ := (Option.bind_some _ _).symm.trans H; rw [hy397]; with_reducible exact H2_) | (have H2_ := (Option.bind_some _ _).symm.trans H; with_reducible exact H2_) | with_reducible exact H | (rw [hy397]; exact H) | exact H
  have Ny397 := Aside0.mk hy397
  clear hy397
  replace H := Option.bind_eq_some_iff.mp H
  obtain ⟨⟨t400, t401, t402⟩, A210, H⟩ := H
  replace H : (if 0 ≤ t384 then (if t384 < (t379.length : Int) then (some ((t379.set (t384 : Int).toNat (⟨(rd_T46 t379 t384).f0, t400, (rd_T46 t379 t384).f2⟩ : S46)), t401, t402)) else (none)) else (none)) = some (r1, r2, r3) := H
  have A21 := Aside0.mk A210
  clear A210
  by_cases c22 : 0 ≤ t384
  rotate_left
  ·
   rw [if_neg c22] at H
   exact absurd H (by simp)
  rw [if_pos c22] at H
  have c22b0 : decide (0 ≤ t384) = true := decide_eq_true c22
  clear c22
  by_cases c23 : t384 < (t379.length : Int)
  rotate_left
  ·
   rw [if_neg c23] at H
   exact absurd H (by simp)
  rw [if_pos c23] at H
  have c23b0 : decide (t384 < (t379.length : Int)) = true := decide_eq_true c23
  clear c23
  obtain ⟨y403, hy403⟩ : ∃ y_ : List (S46), y_ = (t379.set (t384 : Int).toNat (⟨(rd_T46 t379 t384).f0, t400, (rd_T46 t379 t384).f2⟩ : S46)) := ⟨_, rfl⟩
  replace H : (some (y403, t401, t402)) = some (r1, r2, r3) := by first | (rw [hy403]; with_reducible exact H) | (have H2_ := (Option.bind_some _ _).symm.trans H; rw [hy403]; with_reducible exact H2_) | (have H2_ := (Option.bind_some _ _).symm.trans H; with_reducible exact H2_) | with_reducible exact H | (rw [hy403]; exact H) | exact H
  have Ny403 := Aside0.mk hy403
  clear hy403
  simp only [Option.some.injEq, Prod.mk.injEq] at H
  obtain ⟨rfl, rfl, rfl⟩ := H
  go_enter Try.func92, Try.ntmps92
  go_wp2_with (first | ((with_reducible refine gate_callee (f := 104) rfl ?_); refine goesL_ (some 6) rfl rfl Try.func104 (by kernel_rfl) rfl #[.pointer (some ⟨g, 0, none⟩)] rfl (by (try simp only [Y1, Y2, Y3]); first | done | rfl | (simp only [Y4, Y5]; rfl)) ?_; (with_reducible refine (spec_l21Draw.calls k g s0_0 s0_1 s0_2 t379 t382 t383 w0 _ ?side1 ?side2 A2.out).mono ?_); (case side1 => repeat (first | (with_reducible first | exact HI0.out | apply IsS105.alloc | apply IsS105.drewN | apply IsS105.drew | apply IsS105.set_1 | apply IsS105.set_2) | exact HI0.out)); (case side2 => repeat (first | (with_reducible first | exact HB.out | apply bA | apply bN | apply bD | refine below_set ?_ (IsS105.ge HI0.out)) | exact HB.out)); rintro e w25 ⟨v380, rfl, ho0, hi, hb, hk⟩; refine ⟨_, rfl, ?_⟩; replace HO381 := Aside0.mk (Kd.S_lower ho0 (keep_size (w := w) (g := g) (row := none) (by repeat (first | (with_reducible first | exact HK.out | apply KeepBut.set_ | apply keep_drewN | apply keep_drew | apply keep_alloc) | exact HK.out)))); replace HK := Aside0.mk (KeepBut.trans (by repeat (first | (with_reducible first | exact HK.out | apply KeepBut.set_ | apply keep_drewN | apply keep_drew | apply keep_alloc) | exact HK.out)) hk (.inl rfl)); replace HB := Aside0.mk (hb); replace HI0 := Aside0.mk (hi); (try clear hb); (try clear hb2); (try clear hk); (try clear hi); (try clear ho0); obtain ⟨Ao26, co26, eo26⟩ := Kd.S_slice HO381.out; subst eo26) | ((with_reducible refine gate_callee (f := 102) rfl ?_); refine goesL_ (some 10) rfl rfl Try.func102 (by kernel_rfl) rfl #[.pointer (some ⟨g, 0, none⟩), .int .i64 (t379.length : Int)] rfl (by (try simp only [Y1, Y2, Y3]); first | done | rfl | (simp only [Y4, Y5]; rfl)) ?_; (with_reducible refine (spec_l1Below.calls g s0_0 t382 t383 (t379.length : Int) t384 t385 t386 w0 _ ?side1 ?side2 A3.out).mono ?_); (case side1 => repeat (first | (with_reducible first | exact HI0.out | apply IsS105.alloc | apply IsS105.drewN | apply IsS105.drew | apply IsS105.set_1 | apply IsS105.set_2) | exact HI0.out)); (case side2 => repeat (first | (with_reducible first | exact HB.out | apply bA | apply bN | apply bD | refine below_set ?_ (IsS105.ge HI0.out)) | exact HB.out)); rintro e w27 ⟨rfl, hi, hb, hk⟩; refine ⟨_, rfl, ?_⟩; replace HO381 := Aside0.mk (Kd.S_mono (Kd.S_keep (IsS105.apartS (show IsS105 w0 _ g s0_0 t382 t383 from by repeat (first | (with_reducible first | exact HI0.out | apply IsS105.alloc | apply IsS105.drewN | apply IsS105.drew | apply IsS105.set_1 | apply IsS105.set_2) | exact HI0.out)) (by (with_reducible repeat (first | apply sA | apply sN | apply sD)); exact HO381.out) (by decide)) hk (fun _ h => h.2)) (fun _ h => h.1)); replace HK := Aside0.mk (KeepBut.trans (by repeat (first | (with_reducible first | exact HK.out | apply KeepBut.set_ | apply keep_drewN | apply keep_drew | apply keep_alloc) | exact HK.out)) hk (.inl rfl)); replace HB := Aside0.mk (hb); replace HI0 := Aside0.mk (hi); (try clear hb); (try clear hb2); (try clear hk); (try clear hi)) | ((with_reducible refine gate_callee (f := 102) rfl ?_); refine goesL_ (some 12) rfl rfl Try.func102 (by kernel_rfl) rfl #[.pointer (some ⟨g, 0, none⟩), .int .i64 12] rfl (by (try simp only [Y1, Y2, Y3]); first | done | rfl | (simp only [Y4, Y5]; rfl)) ?_; (with_reducible refine (spec_l1Below.calls g s0_0 t385 t386 12 t387 t388 t389 w0 _ ?side1 ?side2 A4.out).mono ?_); (case side1 => repeat (first | (with_reducible first | exact HI0.out | apply IsS105.alloc | apply IsS105.drewN | apply IsS105.drew | apply IsS105.set_1 | apply IsS105.set_2) | exact HI0.out)); (case side2 => repeat (first | (with_reducible first | exact HB.out | apply bA | apply bN | apply bD | refine below_set ?_ (IsS105.ge HI0.out)) | exact HB.out)); rintro e w28 ⟨rfl, hi, hb, hk⟩; refine ⟨_, rfl, ?_⟩; replace HO381 := Aside0.mk (Kd.S_mono (Kd.S_keep (IsS105.apartS (show IsS105 w0 _ g s0_0 t385 t386 from by repeat (first | (with_reducible first | exact HI0.out | apply IsS105.alloc | apply IsS105.drewN | apply IsS105.drew | apply IsS105.set_1 | apply IsS105.set_2) | exact HI0.out)) (by (with_reducible repeat (first | apply sA | apply sN | apply sD)); exact HO381.out) (by decide)) hk (fun _ h => h.2)) (fun _ h => h.1)); replace HK := Aside0.mk (KeepBut.trans (by repeat (first | (with_reducible first | exact HK.out | apply KeepBut.set_ | apply keep_drewN | apply keep_drew | apply keep_alloc) | exact HK.out)) hk (.inl rfl)); replace HB := Aside0.mk (hb); replace HI0 := Aside0.mk (hi); (try clear hb); (try clear hb2); (try clear hk); (try clear hi)) | ((with_reducible refine gate_dst (N := 27) rfl ?_); refine Kd.R_lit (Kd.int .i64) _ 3 ?hg (N := 27) ?hd (xs := ([0, 99, 100] : List Int)) (inner := [.int .i64 0, .int .i64 99, .int .i64 100]) (ok := fun _ => True) (okp := fun _ => True) ?hr ?hp (fun _ hk => hk) trivial (Below.refl _ _) (Nat.le_refl _) (by simp) ?_; (case hd => rfl); (case hg => rfl); (case hr => first | (go_simp; done) | (go_simp; rfl)); (case hp => exact (Reps.one (show Kd.M (Kd.int .i64) _ _ _ 0 [.int .i64 0] from rfl) (Reps.one (show Kd.M (Kd.int .i64) _ _ _ 99 [.int .i64 99] from rfl) (Reps.one (show Kd.M (Kd.int .i64) _ _ _ 100 [.int .i64 100] from rfl) (Reps.none _ _))))); intro v398 w29 ho30 hb hg_ hnew_; clear hg_ hnew_; (first | rw [← Ny397.out] at ho30 | (simp only [Int.reduceToNat] at ho30; rw [← Ny397.out] at ho30)); have n0_ := Aside0.mk (Kd.S_elder' (by (with_reducible repeat (first | apply sA | apply sN | apply sD)); exact HO381.out) (Kd.R_base ho30) hb); have n1_ := Aside0.mk (Kd.R_lower ho30 (keep_size (w := w) (g := g) (row := none) (by repeat (first | (with_reducible first | exact HK.out | apply KeepBut.set_ | apply keep_drewN | apply keep_drew | apply keep_alloc) | exact HK.out)))); have n2_ := Aside0.mk (IsS105.below (by repeat (first | (with_reducible first | exact HI0.out | apply IsS105.alloc | apply IsS105.drewN | apply IsS105.drew | apply IsS105.set_1 | apply IsS105.set_2) | exact HI0.out)) hb); have n3_ := Aside0.mk (KeepBut.trans (by repeat (first | (with_reducible first | exact HK.out | apply KeepBut.set_ | apply keep_drewN | apply keep_drew | apply keep_alloc) | exact HK.out)) (KeepBut.of_below hb g none) (.inl rfl)); have n4_ := Aside0.mk (below_step (by repeat (first | (with_reducible first | exact HB.out | apply bA | apply bN | apply bD | refine below_set ?_ (IsS105.ge HI0.out)) | exact HB.out)) hb); clear HO381; clear HI0; clear HK; clear HB; have HO381 := n0_; have HO399 := n1_; have HI0 := n2_; have HK := n3_; have HB := n4_; clear n0_ n1_ n2_ n3_ n4_; clear hb ho30; obtain ⟨Ao31, co31, eo31⟩ := Kd.R_slice HO399.out; subst eo31) | ((with_reducible refine gate_callee (f := 105) rfl ?_); refine goesL_ (some 28) rfl rfl Try.func105 (by kernel_rfl) rfl #[.pointer (some ⟨g, 0, none⟩), .slice Ao31 y397.length co31] rfl (by (try simp only [Y1, Y2, Y3]); first | done | rfl | (simp only [Y4, Y5]; rfl)) ?_; (with_reducible refine (spec_l1Int.calls g s0_0 t388 t389 _ _ y397 t400 t401 t402 w0 _ ?side1 ?side2 ?side3 ?side4 ?side5 A21.out).mono ?_); (case side1 => repeat (first | (with_reducible first | exact HI0.out | apply IsS105.alloc | apply IsS105.drewN | apply IsS105.drew | apply IsS105.set_1 | apply IsS105.set_2) | exact HI0.out)); (case side2 => repeat (first | (with_reducible first | exact HB.out | apply bA | apply bN | apply bD | refine below_set ?_ (IsS105.ge HI0.out)) | exact HB.out)); (case side3 => repeat (first | exact (Kd.R_reads' HO399.out).2.2 | (with_reducible first | refine cA ?_ _ | refine cN ?_ _ | refine cD ?_))); (case side4 => exact (Kd.R_reads' HO399.out).2.1); (case side5 => exact far_slice (IsS105.own_ne HI0.out HO399.out (by decide))); rintro e w32 ⟨rfl, hi, hb, hk⟩; refine ⟨_, rfl, ?_⟩; replace HO381 := Aside0.mk (Kd.S_mono (Kd.S_keep (IsS105.apartS (show IsS105 w0 _ g s0_0 t388 t389 from by repeat (first | (with_reducible first | exact HI0.out | apply IsS105.alloc | apply IsS105.drewN | apply IsS105.drew | apply IsS105.set_1 | apply IsS105.set_2) | exact HI0.out)) (by (with_reducible repeat (first | apply sA | apply sN | apply sD)); exact HO381.out) (by decide)) hk (fun _ h => h.2)) (fun _ h => h.1)); replace HO399 := Aside0.mk (Kd.R_mono (Kd.R_keep (IsS105.apart (show IsS105 w0 _ g s0_0 t388 t389 from by repeat (first | (with_reducible first | exact HI0.out | apply IsS105.alloc | apply IsS105.drewN | apply IsS105.drew | apply IsS105.set_1 | apply IsS105.set_2) | exact HI0.out)) (by (with_reducible repeat (first | apply rA | apply rN | apply rD)); exact HO399.out) (by decide)) hk (fun _ h => h.2)) (fun _ h => h.1)); replace HK := Aside0.mk (KeepBut.trans (by repeat (first | (with_reducible first | exact HK.out | apply KeepBut.set_ | apply keep_drewN | apply keep_drew | apply keep_alloc) | exact HK.out)) hk (.inl rfl)); replace HB := Aside0.mk (hb); replace HI0 := Aside0.mk (hi); (try clear hb); (try clear hb2); (try clear hk); (try clear hi); have p24 : 0 ≤ (t384 : Int) := od (by assumption); have q24 : (t384 : Int) < ((t379.length : Int) : Int) := od (by assumption); obtain ⟨go24, co24, eo24, gb24, gl24, cl24, HG24⟩ := Kd.S_form HO381.out (by omega); (first | cases eo24 | (injection eo24 with ea_ en_ ec_; (first | subst ea_ | (injection ea_ with ea_; subst ea_)); subst ec_; clear en_)); have GB24 := Aside0.mk gb24; have GG24 := Aside0.mk HG24; clear gb24 gl24 HG24; obtain ⟨_, ce24, hcl24, hM24, hcc24, hfr24, _, _⟩ := Kd.S_elem HO381.out z46 (t384 : Int) p24 q24; obtain ⟨ve24_2, rfl, ge24_2⟩ := k46_openM hM24; have hx24_0 : w32.cell? ⟨go24, (t384 : Int).toNat * 3, none⟩ = some (.int .i64 ((rd_T46 t379 t384).f0)) := hcc24 0 _ rfl; have hx24_1 : w32.cell? ⟨go24, (t384 : Int).toNat * 3 + 1, none⟩ = some (.int .i64 ((rd_T46 t379 t384).f1)) := hcc24 1 _ rfl; have hx24_2 : w32.cell? ⟨go24, (t384 : Int).toNat * 3 + 2, none⟩ = some (ve24_2) := hcc24 2 _ rfl; have hf24_0 : w32.frozen? ⟨go24, (t384 : Int).toNat * 3, none⟩ = false := hfr24 0; have hf24_1 : w32.frozen? ⟨go24, (t384 : Int).toNat * 3 + 1, none⟩ = false := hfr24 1; have hf24_2 : w32.frozen? ⟨go24, (t384 : Int).toNat * 3 + 2, none⟩ = false := hfr24 2; (try clear hcl24); (try clear hcc24); (try clear hfr24); (try clear hM24); replace p24 := eq_true p24; replace q24 := eq_true q24; have n_ := Aside0.mk (Kd.S_mono (ok' := (fun k_ => some k_ ≠ (.slice Ao31 y397.length co31 : Value).ownBlock)) HO381.out (fun k_ hk => hk.2)); clear HO381; have HO381 := n_; clear n_; have HX33 := Aside0.mk (show Kd.S k46 46 w32 w.heap.size (fun k_ => ((fun k_ => some k_ ≠ (.slice Ao31 y397.length co31 : Value).ownBlock)) k_ ∧ ¬ ((fun _ => False)) k_) (.slice (some ⟨go24, 0, none⟩) t379.length co26) t379 from (by (with_reducible repeat (first | apply sA | apply sN | apply sD)); exact Kd.S_mono HO381.out (fun k_ hk => ⟨hk, fun e_ => e_⟩))); obtain ⟨oki33, ce33, hcl33, hM33, hcc33, hfr33, hoki33, hH33⟩ := Kd.S_elem HX33.out z46 (t384 : Int) (od (by assumption)) (by have h_ : (t384 : Int) < ((t379.length : Int) : Int) := od (by assumption); first | exact h_ | (have e_ := (Kd.S_reads' HO381.out).1; omega) | simpa using h_); obtain ⟨ve33_2, rfl, ge33_2⟩ := k46_openM hM33; have HP33 := Kd.S_seg hH33 (od (by assumption)) (by have h_ : (t384 : Int) < ((t379.length : Int) : Int) := od (by assumption); first | exact h_ | (have e_ := (Kd.S_reads' HO381.out).1; omega) | simpa using h_) (seg := [.int .i64 t400]) (j := 1) (show 2 ≤ 3 from by decide) (x' := (⟨(rd_T46 t379 t384).f0, t400, (rd_T46 t379 t384).f2⟩ : S46)) (k46_mkM _ _ _ (⟨(rd_T46 t379 t384).f0, t400, (rd_T46 t379 t384).f2⟩ : S46) (Kd.R_mono ge33_2 (fun _ h_ => Or.inl h_))) (fun _ hk => hk) (fun k_ hk_ => hk_.elim); have hx33_1 := hcc33 1 _ rfl; (try simp only [show (k46).sz = 3 from rfl, Nat.mul_one, Nat.add_zero] at hx33_1); have hf33_1 := hfr33 1; (try simp only [show (k46).sz = 3 from rfl, Nat.mul_one, Nat.add_zero] at hf33_1); (try clear hcl33); (try clear hcc33); (try clear hfr33); (try clear hM33); (try clear hoki33); (try clear hH33)) | ((with_reducible refine gate_store (t := 3) (p := 30) rfl ?_); refine store_event (t := 3) (p := 30) (v := ?vo_w34) (w1 := (w32.setCell ⟨go24, (t384 : Int).toNat * 3 + 1, none⟩ (.int .i64 t400))) ?hg ?ho ?hn ?hr ?_; (case ho => rfl); (case hg => rfl); (case hn => rfl); (case hr => first | (go_simp; done) | (go_simp; rfl)); intro w34 hw; have hg : w32.grownBy w34 (some go24) := (by rw [hw]; exact HP33.2); have hp_ : Kd.S k46 46 w34 w.heap.size (fun k_ => some k_ ≠ (.slice Ao31 y397.length co31 : Value).ownBlock) (.slice (some ⟨go24, 0, none⟩) t379.length co26) y403 := (by rw [hw, Ny403.out]; exact HP33.1); clear HP33; have n0_ := Aside0.mk (IsS105.grown (by repeat (first | (with_reducible first | exact HI0.out | apply IsS105.alloc | apply IsS105.drewN | apply IsS105.drew | apply IsS105.set_1 | apply IsS105.set_2) | exact HI0.out)) hg (IsS105.own_neS HI0.out HO381.out (by decide))); have n1_ := Aside0.mk (hp_); have n2_ := Aside0.mk (Kd.R_over' (v := (.slice (some ⟨go24, 0, none⟩) t379.length co26)) (by (with_reducible repeat (first | apply rA | apply rN | apply rD)); exact HO399.out) (Kd.S_typed HO381.out) (by decide) hg); have n3_ := Aside0.mk ((by rw [hw]; exact below_set (HB.out) (Nat.le_trans HL.out GB24.out) : Below w0.heap.size w0 w34)); have n4_ := Aside0.mk (KeepBut.trans (by repeat (first | (with_reducible first | exact HK.out | apply KeepBut.set_ | apply keep_drewN | apply keep_drew | apply keep_alloc) | exact HK.out)) (KeepBut.of_grown hg g) (Kd.S_base2 HO381.out)); clear HI0; clear HO381; clear HO399; clear HB; clear HK; have HI0 := n0_; have HO381 := n1_; have HO399 := n2_; have HB := n3_; have HK := n4_; clear n0_ n1_ n2_ n3_ n4_; clear hg hw hp_))
  all_goals (go_ret; exact ⟨_, by first | rfl | (simp [*, errW_none, errW_some] <;> rfl), by (with_reducible repeat (first | apply sA | apply sN | apply sD)); exact Kd.S_mono HO381.out (fun _ hk => trivial), by repeat (first | (with_reducible first | exact HI0.out | apply IsS105.alloc | apply IsS105.drewN | apply IsS105.drew | apply IsS105.set_1 | apply IsS105.set_2) | exact HI0.out), by repeat (first | (with_reducible first | exact HB.out | apply bA | apply bN | apply bD | refine below_set ?_ (IsS105.ge HI0.out)) | exact HB.out), by repeat (first | (with_reducible first | exact HK.out | apply KeepBut.set_ | apply keep_drewN | apply keep_drew | apply keep_alloc) | exact HK.out)⟩)
 rw [if_pos c5] at H
 have c5b0 : (t387 == 0) = true := beq_iff_eq.mpr c5
 have c5b1 : (t387 != 0) = false := bne_eq_false_iff_eq.mpr c5
 clear c5
 obtain ⟨y390, hy390⟩ : ∃ y_ : List Int, y_ = (([0, 11, 99, 100] : List Int)) := ⟨_, rfl⟩
 replace H : ((spec_l1Int.f s0_0 t388 t389 y390).bind fun bt393 => (if 0 ≤ t384 then (if t384 < (t379.length : Int) then (some ((t379.set (t384 : Int).toNat (⟨bt393.1, (rd_T46 t379 t384).f1, (rd_T46 t379 t384).f2⟩ : S46)), bt393.2.1, bt393.2.2)) else (none)) else (none))) = some (r1, r2, r3) := by first | (rw [hy390]; with_reducible exact H) | (have H2_ := (Option.bind_some _ _).symm.trans H; rw [hy390]; with_reducible exact H2_) | (have H2_ := (Option.bind_some _ _).symm.trans H; with_reducible exact H2_) | with_reducible exact H | (rw [hy390]; exact H) | exact H
 have Ny390 := Aside0.mk hy390
 clear hy390
 replace H := Option.bind_eq_some_iff.mp H
 obtain ⟨⟨t393, t394, t395⟩, A60, H⟩ := H
 replace H : (if 0 ≤ t384 then (if t384 < (t379.length : Int) then (some ((t379.set (t384 : Int).toNat (⟨t393, (rd_T46 t379 t384).f1, (rd_T46 t379 t384).f2⟩ : S46)), t394, t395)) else (none)) else (none)) = some (r1, r2, r3) := H
 have A6 := Aside0.mk A60
 clear A60
 by_cases c7 : 0 ≤ t384
 rotate_left
 ·
  rw [if_neg c7] at H
  exact absurd H (by simp)
 rw [if_pos c7] at H
 have c7b0 : decide (0 ≤ t384) = true := decide_eq_true c7
 clear c7
 by_cases c8 : t384 < (t379.length : Int)
 rotate_left
 ·
  rw [if_neg c8] at H
  exact absurd H (by simp)
 rw [if_pos c8] at H
 have c8b0 : decide (t384 < (t379.length : Int)) = true := decide_eq_true c8
 clear c8
 obtain ⟨y396, hy396⟩ : ∃ y_ : List (S46), y_ = (t379.set (t384 : Int).toNat (⟨t393, (rd_T46 t379 t384).f1, (rd_T46 t379 t384).f2⟩ : S46)) := ⟨_, rfl⟩
 replace H : (some (y396, t394, t395)) = some (r1, r2, r3) := by first | (rw [hy396]; with_reducible exact H) | (have H2_ := (Option.bind_some _ _).symm.trans H; rw [hy396]; with_reducible exact H2_) | (have H2_ := (Option.bind_some _ _).symm.trans H; with_reducible exact H2_) | with_reducible exact H | (rw [hy396]; exact H) | exact H
 have Ny396 := Aside0.mk hy396
 clear hy396
 simp only [Option.some.injEq, Prod.mk.injEq] at H
 obtain ⟨rfl, rfl, rfl⟩ := H
 go_enter Try.func92, Try.ntmps92
 go_wp2_with (first | ((with_reducible refine gate_callee (f := 104) rfl ?_); refine goesL_ (some 6) rfl rfl Try.func104 (by kernel_rfl) rfl #[.pointer (some ⟨g, 0, none⟩)] rfl (by (try simp only [Y1, Y2, Y3]); first | done | rfl | (simp only [Y4, Y5]; rfl)) ?_; (with_reducible refine (spec_l21Draw.calls k g s0_0 s0_1 s0_2 t379 t382 t383 w0 _ ?side1 ?side2 A2.out).mono ?_); (case side1 => repeat (first | (with_reducible first | exact HI0.out | apply IsS105.alloc | apply IsS105.drewN | apply IsS105.drew | apply IsS105.set_1 | apply IsS105.set_2) | exact HI0.out)); (case side2 => repeat (first | (with_reducible first | exact HB.out | apply bA | apply bN | apply bD | refine below_set ?_ (IsS105.ge HI0.out)) | exact HB.out)); rintro e w10 ⟨v380, rfl, ho0, hi, hb, hk⟩; refine ⟨_, rfl, ?_⟩; replace HO381 := Aside0.mk (Kd.S_lower ho0 (keep_size (w := w) (g := g) (row := none) (by repeat (first | (with_reducible first | exact HK.out | apply KeepBut.set_ | apply keep_drewN | apply keep_drew | apply keep_alloc) | exact HK.out)))); replace HK := Aside0.mk (KeepBut.trans (by repeat (first | (with_reducible first | exact HK.out | apply KeepBut.set_ | apply keep_drewN | apply keep_drew | apply keep_alloc) | exact HK.out)) hk (.inl rfl)); replace HB := Aside0.mk (hb); replace HI0 := Aside0.mk (hi); (try clear hb); (try clear hb2); (try clear hk); (try clear hi); (try clear ho0); obtain ⟨Ao11, co11, eo11⟩ := Kd.S_slice HO381.out; subst eo11) | ((with_reducible refine gate_callee (f := 102) rfl ?_); refine goesL_ (some 10) rfl rfl Try.func102 (by kernel_rfl) rfl #[.pointer (some ⟨g, 0, none⟩), .int .i64 (t379.length : Int)] rfl (by (try simp only [Y1, Y2, Y3]); first | done | rfl | (simp only [Y4, Y5]; rfl)) ?_; (with_reducible refine (spec_l1Below.calls g s0_0 t382 t383 (t379.length : Int) t384 t385 t386 w0 _ ?side1 ?side2 A3.out).mono ?_); (case side1 => repeat (first | (with_reducible first | exact HI0.out | apply IsS105.alloc | apply IsS105.drewN | apply IsS105.drew | apply IsS105.set_1 | apply IsS105.set_2) | exact HI0.out)); (case side2 => repeat (first | (with_reducible first | exact HB.out | apply bA | apply bN | apply bD | refine below_set ?_ (IsS105.ge HI0.out)) | exact HB.out)); rintro e w12 ⟨rfl, hi, hb, hk⟩; refine ⟨_, rfl, ?_⟩; replace HO381 := Aside0.mk (Kd.S_mono (Kd.S_keep (IsS105.apartS (show IsS105 w0 _ g s0_0 t382 t383 from by repeat (first | (with_reducible first | exact HI0.out | apply IsS105.alloc | apply IsS105.drewN | apply IsS105.drew | apply IsS105.set_1 | apply IsS105.set_2) | exact HI0.out)) (by (with_reducible repeat (first | apply sA | apply sN | apply sD)); exact HO381.out) (by decide)) hk (fun _ h => h.2)) (fun _ h => h.1)); replace HK := Aside0.mk (KeepBut.trans (by repeat (first | (with_reducible first | exact HK.out | apply KeepBut.set_ | apply keep_drewN | apply keep_drew | apply keep_alloc) | exact HK.out)) hk (.inl rfl)); replace HB := Aside0.mk (hb); replace HI0 := Aside0.mk (hi); (try clear hb); (try clear hb2); (try clear hk); (try clear hi)) | ((with_reducible refine gate_callee (f := 102) rfl ?_); refine goesL_ (some 12) rfl rfl Try.func102 (by kernel_rfl) rfl #[.pointer (some ⟨g, 0, none⟩), .int .i64 12] rfl (by (try simp only [Y1, Y2, Y3]); first | done | rfl | (simp only [Y4, Y5]; rfl)) ?_; (with_reducible refine (spec_l1Below.calls g s0_0 t385 t386 12 t387 t388 t389 w0 _ ?side1 ?side2 A4.out).mono ?_); (case side1 => repeat (first | (with_reducible first | exact HI0.out | apply IsS105.alloc | apply IsS105.drewN | apply IsS105.drew | apply IsS105.set_1 | apply IsS105.set_2) | exact HI0.out)); (case side2 => repeat (first | (with_reducible first | exact HB.out | apply bA | apply bN | apply bD | refine below_set ?_ (IsS105.ge HI0.out)) | exact HB.out)); rintro e w13 ⟨rfl, hi, hb, hk⟩; refine ⟨_, rfl, ?_⟩; replace HO381 := Aside0.mk (Kd.S_mono (Kd.S_keep (IsS105.apartS (show IsS105 w0 _ g s0_0 t385 t386 from by repeat (first | (with_reducible first | exact HI0.out | apply IsS105.alloc | apply IsS105.drewN | apply IsS105.drew | apply IsS105.set_1 | apply IsS105.set_2) | exact HI0.out)) (by (with_reducible repeat (first | apply sA | apply sN | apply sD)); exact HO381.out) (by decide)) hk (fun _ h => h.2)) (fun _ h => h.1)); replace HK := Aside0.mk (KeepBut.trans (by repeat (first | (with_reducible first | exact HK.out | apply KeepBut.set_ | apply keep_drewN | apply keep_drew | apply keep_alloc) | exact HK.out)) hk (.inl rfl)); replace HB := Aside0.mk (hb); replace HI0 := Aside0.mk (hi); (try clear hb); (try clear hb2); (try clear hk); (try clear hi)) | ((with_reducible refine gate_dst (N := 18) rfl ?_); refine Kd.R_lit (Kd.int .i64) _ 3 ?hg (N := 18) ?hd (xs := ([0, 11, 99, 100] : List Int)) (inner := [.int .i64 0, .int .i64 11, .int .i64 99, .int .i64 100]) (ok := fun _ => True) (okp := fun _ => True) ?hr ?hp (fun _ hk => hk) trivial (Below.refl _ _) (Nat.le_refl _) (by simp) ?_; (case hd => rfl); (case hg => rfl); (case hr => first | (go_simp; done) | (go_simp; rfl)); (case hp => exact (Reps.one (show Kd.M (Kd.int .i64) _ _ _ 0 [.int .i64 0] from rfl) (Reps.one (show Kd.M (Kd.int .i64) _ _ _ 11 [.int .i64 11] from rfl) (Reps.one (show Kd.M (Kd.int .i64) _ _ _ 99 [.int .i64 99] from rfl) (Reps.one (show Kd.M (Kd.int .i64) _ _ _ 100 [.int .i64 100] from rfl) (Reps.none _ _)))))); intro v391 w14 ho15 hb hg_ hnew_; clear hg_ hnew_; (first | rw [← Ny390.out] at ho15 | (simp only [Int.reduceToNat] at ho15; rw [← Ny390.out] at ho15)); have n0_ := Aside0.mk (Kd.S_elder' (by (with_reducible repeat (first | apply sA | apply sN | apply sD)); exact HO381.out) (Kd.R_base ho15) hb); have n1_ := Aside0.mk (Kd.R_lower ho15 (keep_size (w := w) (g := g) (row := none) (by repeat (first | (with_reducible first | exact HK.out | apply KeepBut.set_ | apply keep_drewN | apply keep_drew | apply keep_alloc) | exact HK.out)))); have n2_ := Aside0.mk (IsS105.below (by repeat (first | (with_reducible first | exact HI0.out | apply IsS105.alloc | apply IsS105.drewN | apply IsS105.drew | apply IsS105.set_1 | apply IsS105.set_2) | exact HI0.out)) hb); have n3_ := Aside0.mk (KeepBut.trans (by repeat (first | (with_reducible first | exact HK.out | apply KeepBut.set_ | apply keep_drewN | apply keep_drew | apply keep_alloc) | exact HK.out)) (KeepBut.of_below hb g none) (.inl rfl)); have n4_ := Aside0.mk (below_step (by repeat (first | (with_reducible first | exact HB.out | apply bA | apply bN | apply bD | refine below_set ?_ (IsS105.ge HI0.out)) | exact HB.out)) hb); clear HO381; clear HI0; clear HK; clear HB; have HO381 := n0_; have HO392 := n1_; have HI0 := n2_; have HK := n3_; have HB := n4_; clear n0_ n1_ n2_ n3_ n4_; clear hb ho15; obtain ⟨Ao16, co16, eo16⟩ := Kd.R_slice HO392.out; subst eo16) | ((with_reducible refine gate_callee (f := 105) rfl ?_); refine goesL_ (some 19) rfl rfl Try.func105 (by kernel_rfl) rfl #[.pointer (some ⟨g, 0, none⟩), .slice Ao16 y390.length co16] rfl (by (try simp only [Y1, Y2, Y3]); first | done | rfl | (simp only [Y4, Y5]; rfl)) ?_; (with_reducible refine (spec_l1Int.calls g s0_0 t388 t389 _ _ y390 t393 t394 t395 w0 _ ?side1 ?side2 ?side3 ?side4 ?side5 A6.out).mono ?_); (case side1 => repeat (first | (with_reducible first | exact HI0.out | apply IsS105.alloc | apply IsS105.drewN | apply IsS105.drew | apply IsS105.set_1 | apply IsS105.set_2) | exact HI0.out)); (case side2 => repeat (first | (with_reducible first | exact HB.out | apply bA | apply bN | apply bD | refine below_set ?_ (IsS105.ge HI0.out)) | exact HB.out)); (case side3 => repeat (first | exact (Kd.R_reads' HO392.out).2.2 | (with_reducible first | refine cA ?_ _ | refine cN ?_ _ | refine cD ?_))); (case side4 => exact (Kd.R_reads' HO392.out).2.1); (case side5 => exact far_slice (IsS105.own_ne HI0.out HO392.out (by decide))); rintro e w17 ⟨rfl, hi, hb, hk⟩; refine ⟨_, rfl, ?_⟩; replace HO381 := Aside0.mk (Kd.S_mono (Kd.S_keep (IsS105.apartS (show IsS105 w0 _ g s0_0 t388 t389 from by repeat (first | (with_reducible first | exact HI0.out | apply IsS105.alloc | apply IsS105.drewN | apply IsS105.drew | apply IsS105.set_1 | apply IsS105.set_2) | exact HI0.out)) (by (with_reducible repeat (first | apply sA | apply sN | apply sD)); exact HO381.out) (by decide)) hk (fun _ h => h.2)) (fun _ h => h.1)); replace HO392 := Aside0.mk (Kd.R_mono (Kd.R_keep (IsS105.apart (show IsS105 w0 _ g s0_0 t388 t389 from by repeat (first | (with_reducible first | exact HI0.out | apply IsS105.alloc | apply IsS105.drewN | apply IsS105.drew | apply IsS105.set_1 | apply IsS105.set_2) | exact HI0.out)) (by (with_reducible repeat (first | apply rA | apply rN | apply rD)); exact HO392.out) (by decide)) hk (fun _ h => h.2)) (fun _ h => h.1)); replace HK := Aside0.mk (KeepBut.trans (by repeat (first | (with_reducible first | exact HK.out | apply KeepBut.set_ | apply keep_drewN | apply keep_drew | apply keep_alloc) | exact HK.out)) hk (.inl rfl)); replace HB := Aside0.mk (hb); replace HI0 := Aside0.mk (hi); (try clear hb); (try clear hb2); (try clear hk); (try clear hi); have p9 : 0 ≤ (t384 : Int) := od (by assumption); have q9 : (t384 : Int) < ((t379.length : Int) : Int) := od (by assumption); obtain ⟨go9, co9, eo9, gb9, gl9, cl9, HG9⟩ := Kd.S_form HO381.out (by omega); (first | cases eo9 | (injection eo9 with ea_ en_ ec_; (first | subst ea_ | (injection ea_ with ea_; subst ea_)); subst ec_; clear en_)); have GB9 := Aside0.mk gb9; have GG9 := Aside0.mk HG9; clear gb9 gl9 HG9; obtain ⟨_, ce9, hcl9, hM9, hcc9, hfr9, _, _⟩ := Kd.S_elem HO381.out z46 (t384 : Int) p9 q9; obtain ⟨ve9_2, rfl, ge9_2⟩ := k46_openM hM9; have hx9_0 : w17.cell? ⟨go9, (t384 : Int).toNat * 3, none⟩ = some (.int .i64 ((rd_T46 t379 t384).f0)) := hcc9 0 _ rfl; have hx9_1 : w17.cell? ⟨go9, (t384 : Int).toNat * 3 + 1, none⟩ = some (.int .i64 ((rd_T46 t379 t384).f1)) := hcc9 1 _ rfl; have hx9_2 : w17.cell? ⟨go9, (t384 : Int).toNat * 3 + 2, none⟩ = some (ve9_2) := hcc9 2 _ rfl; have hf9_0 : w17.frozen? ⟨go9, (t384 : Int).toNat * 3, none⟩ = false := hfr9 0; have hf9_1 : w17.frozen? ⟨go9, (t384 : Int).toNat * 3 + 1, none⟩ = false := hfr9 1; have hf9_2 : w17.frozen? ⟨go9, (t384 : Int).toNat * 3 + 2, none⟩ = false := hfr9 2; (try clear hcl9); (try clear hcc9); (try clear hfr9); (try clear hM9); replace p9 := eq_true p9; replace q9 := eq_true q9; have n_ := Aside0.mk (Kd.S_mono (ok' := (fun k_ => some k_ ≠ (.slice Ao16 y390.length co16 : Value).ownBlock)) HO381.out (fun k_ hk => hk.2)); clear HO381; have HO381 := n_; clear n_; have HX18 := Aside0.mk (show Kd.S k46 46 w17 w.heap.size (fun k_ => ((fun k_ => some k_ ≠ (.slice Ao16 y390.length co16 : Value).ownBlock)) k_ ∧ ¬ ((fun _ => False)) k_) (.slice (some ⟨go9, 0, none⟩) t379.length co11) t379 from (by (with_reducible repeat (first | apply sA | apply sN | apply sD)); exact Kd.S_mono HO381.out (fun k_ hk => ⟨hk, fun e_ => e_⟩))); obtain ⟨oki18, ce18, hcl18, hM18, hcc18, hfr18, hoki18, hH18⟩ := Kd.S_elem HX18.out z46 (t384 : Int) (od (by assumption)) (by have h_ : (t384 : Int) < ((t379.length : Int) : Int) := od (by assumption); first | exact h_ | (have e_ := (Kd.S_reads' HO381.out).1; omega) | simpa using h_); obtain ⟨ve18_2, rfl, ge18_2⟩ := k46_openM hM18; have HP18 := Kd.S_seg hH18 (od (by assumption)) (by have h_ : (t384 : Int) < ((t379.length : Int) : Int) := od (by assumption); first | exact h_ | (have e_ := (Kd.S_reads' HO381.out).1; omega) | simpa using h_) (seg := [.int .i64 t393]) (j := 0) (show 1 ≤ 3 from by decide) (x' := (⟨t393, (rd_T46 t379 t384).f1, (rd_T46 t379 t384).f2⟩ : S46)) (k46_mkM _ _ _ (⟨t393, (rd_T46 t379 t384).f1, (rd_T46 t379 t384).f2⟩ : S46) (Kd.R_mono ge18_2 (fun _ h_ => Or.inl h_))) (fun _ hk => hk) (fun k_ hk_ => hk_.elim); have hx18_0 := hcc18 0 _ rfl; (try simp only [show (k46).sz = 3 from rfl, Nat.mul_one, Nat.add_zero] at hx18_0); have hf18_0 := hfr18 0; (try simp only [show (k46).sz = 3 from rfl, Nat.mul_one, Nat.add_zero] at hf18_0); (try clear hcl18); (try clear hcc18); (try clear hfr18); (try clear hM18); (try clear hoki18); (try clear hH18)) | ((with_reducible refine gate_store (t := 3) (p := 21) rfl ?_); refine store_event (t := 3) (p := 21) (v := ?vo_w19) (w1 := (w17.setCell ⟨go9, (t384 : Int).toNat * 3, none⟩ (.int .i64 t393))) ?hg ?ho ?hn ?hr ?_; (case ho => rfl); (case hg => rfl); (case hn => rfl); (case hr => first | (go_simp; done) | (go_simp; rfl)); intro w19 hw; have hg : w17.grownBy w19 (some go9) := (by rw [hw]; exact HP18.2); have hp_ : Kd.S k46 46 w19 w.heap.size (fun k_ => some k_ ≠ (.slice Ao16 y390.length co16 : Value).ownBlock) (.slice (some ⟨go9, 0, none⟩) t379.length co11) y396 := (by rw [hw, Ny396.out]; exact HP18.1); clear HP18; have n0_ := Aside0.mk (IsS105.grown (by repeat (first | (with_reducible first | exact HI0.out | apply IsS105.alloc | apply IsS105.drewN | apply IsS105.drew | apply IsS105.set_1 | apply IsS105.set_2) | exact HI0.out)) hg (IsS105.own_neS HI0.out HO381.out (by decide))); have n1_ := Aside0.mk (hp_); have n2_ := Aside0.mk (Kd.R_over' (v := (.slice (some ⟨go9, 0, none⟩) t379.length co11)) (by (with_reducible repeat (first | apply rA | apply rN | apply rD)); exact HO392.out) (Kd.S_typed HO381.out) (by decide) hg); have n3_ := Aside0.mk ((by rw [hw]; exact below_set (HB.out) (Nat.le_trans HL.out GB9.out) : Below w0.heap.size w0 w19)); have n4_ := Aside0.mk (KeepBut.trans (by repeat (first | (with_reducible first | exact HK.out | apply KeepBut.set_ | apply keep_drewN | apply keep_drew | apply keep_alloc) | exact HK.out)) (KeepBut.of_grown hg g) (Kd.S_base2 HO381.out)); clear HI0; clear HO381; clear HO392; clear HB; clear HK; have HI0 := n0_; have HO381 := n1_; have HO392 := n2_; have HB := n3_; have HK := n4_; clear n0_ n1_ n2_ n3_ n4_; clear hg hw hp_))
 all_goals (go_ret; exact ⟨_, by first | rfl | (simp [*, errW_none, errW_some] <;> rfl), by (with_reducible repeat (first | apply sA | apply sN | apply sD)); exact Kd.S_mono HO381.out (fun _ hk => trivial), by repeat (first | (with_reducible first | exact HI0.out | apply IsS105.alloc | apply IsS105.drewN | apply IsS105.drew | apply IsS105.set_1 | apply IsS105.set_2) | exact HI0.out), by repeat (first | (with_reducible first | exact HB.out | apply bA | apply bN | apply bD | refine below_set ?_ (IsS105.ge HI0.out)) | exact HB.out), by repeat (first | (with_reducible first | exact HK.out | apply KeepBut.set_ | apply keep_drewN | apply keep_drew | apply keep_alloc) | exact HK.out)⟩)
def spec_l21Case.f (k : Nat) (s0_0 : List Int) (s0_1 : Int) (s0_2 : Int) : Option ((List (S78)) × (List (S46)) × (List (S48)) × Int × Int) := (spec_l19Draw.f k s0_0 s0_1 s0_2).bind fun bt408 => ((spec_PairRound.f k bt408.1).bind fun bt413 => ((spec_l21Any.f k s0_0 bt408.2.1 bt408.2.2).bind fun bt417 => (some (bt408.1, bt417.1, bt413.1, bt417.2.1, bt417.2.2))))
set_option maxHeartbeats 8000000 in
set_option maxRecDepth 100000 in
theorem spec_l21Case.calls (k : Nat) (g : Nat) (s0_0 : List Int) (s0_1 : Int) (s0_2 : Int) (r1 : List (S78)) (r2 : List (S46)) (r3 : List (S48)) (r4 : Int) (r5 : Int) (w0 w : World) (hI : IsS105 w0 w g s0_0 s0_1 s0_2) (hB : Below w0.heap.size w0 w) (h : spec_l21Case.f k s0_0 s0_1 s0_2 = some (r1, r2, r3, r4, r5)) :
  Calls Try.prog 73 #[.pointer (some ⟨g, 0, none⟩)] w fun e w' => ∃ v0_ v1_ v2_ : Value, e = .returned (.tuple #[v0_, v1_, v2_]) ∧ Kd.S k78 78 w' w.heap.size (fun _ => True) v0_ r1 ∧ Kd.S k46 46 w' w.heap.size (fun _ => True) v1_ r2 ∧ Kd.R k48 48 w' w.heap.size (fun _ => True) v2_ r3 ∧ IsS105 w0 w' g s0_0 r4 r5 ∧ Below w0.heap.size w0 w' ∧ KeepBut w w' g none := by
 have HI0 := Aside0.mk hI
 have HK := Aside0.mk (KeepBut.refl w g none)
 have HL := Aside0.mk hB.size
 clear hI
 have HW0 := Aside0.mk hB.size
 have HB := Aside0.mk hB
 clear hB
 have H : ((spec_l19Draw.f k s0_0 s0_1 s0_2).bind fun bt408 => ((spec_PairRound.f k bt408.1).bind fun bt413 => ((spec_l21Any.f k s0_0 bt408.2.1 bt408.2.2).bind fun bt417 => (some (bt408.1, bt417.1, bt413.1, bt417.2.1, bt417.2.2))))) = some (r1, r2, r3, r4, r5) := h
 clear h
 replace H := Option.bind_eq_some_iff.mp H
 obtain ⟨⟨t408, t411, t412⟩, A20, H⟩ := H
 replace H : ((spec_PairRound.f k t408).bind fun bt413 => ((spec_l21Any.f k s0_0 t411 t412).bind fun bt417 => (some (t408, bt417.1, bt413.1, bt417.2.1, bt417.2.2)))) = some (r1, r2, r3, r4, r5) := H
 have A2 := Aside0.mk A20
 clear A20
 replace H := Option.bind_eq_some_iff.mp H
 obtain ⟨⟨t413, t414⟩, A30, H⟩ := H
 replace H : ((spec_l21Any.f k s0_0 t411 t412).bind fun bt417 => (some (t408, bt417.1, t413, bt417.2.1, bt417.2.2))) = some (r1, r2, r3, r4, r5) := H
 have A3 := Aside0.mk A30
 clear A30
 replace H := Option.bind_eq_some_iff.mp H
 obtain ⟨⟨t417, t420, t421⟩, A40, H⟩ := H
 replace H : (some (t408, t417, t413, t420, t421)) = some (r1, r2, r3, r4, r5) := H
 have A4 := Aside0.mk A40
 clear A40
 simp only [Option.some.injEq, Prod.mk.injEq] at H
 obtain ⟨rfl, rfl, rfl, rfl, rfl⟩ := H
 go_enter Try.func73, Try.ntmps73
 go_wp2_with (first | ((with_reducible refine gate_callee (f := 91) rfl ?_); refine goesL_ (some 9) rfl rfl Try.func91 (by kernel_rfl) rfl #[.pointer (some ⟨g, 0, none⟩)] rfl (by (try simp only [Y1, Y2, Y3]); first | done | rfl | (simp only [Y4, Y5]; rfl)) ?_; (with_reducible refine (spec_l19Draw.calls k g s0_0 s0_1 s0_2 t408 t411 t412 w0 _ ?side1 ?side2 A2.out).mono ?_); (case side1 => repeat (first | (with_reducible first | exact HI0.out | apply IsS105.alloc | apply IsS105.drewN | apply IsS105.drew | apply IsS105.set_1 | apply IsS105.set_2) | exact HI0.out)); (case side2 => repeat (first | (with_reducible first | exact HB.out | apply bA | apply bN | apply bD | refine below_set ?_ (IsS105.ge HI0.out)) | exact HB.out)); rintro e w5 ⟨v409, rfl, ho0, hi, hb, hk⟩; refine ⟨_, rfl, ?_⟩; replace HO410 := Aside0.mk (Kd.S_lower ho0 (keep_size (w := w) (g := g) (row := none) (by repeat (first | (with_reducible first | exact HK.out | apply KeepBut.set_ | apply keep_drewN | apply keep_drew | apply keep_alloc) | exact HK.out)))); replace HK := Aside0.mk (KeepBut.trans (by repeat (first | (with_reducible first | exact HK.out | apply KeepBut.set_ | apply keep_drewN | apply keep_drew | apply keep_alloc) | exact HK.out)) hk (.inl rfl)); replace HB := Aside0.mk (hb); replace HI0 := Aside0.mk (hi); (try clear hb); (try clear hb2); (try clear hk); (try clear hi); (try clear ho0); obtain ⟨Ao6, co6, eo6⟩ := Kd.S_slice HO410.out; subst eo6) | ((with_reducible refine gate_callee (f := 47) rfl ?_); refine goesL_ (some 12) rfl rfl Try.func47 (by kernel_rfl) rfl #[.slice Ao6 t408.length co6] rfl (by (try simp only [Y1, Y2, Y3]); first | done | rfl | (simp only [Y4, Y5]; rfl)) ?_; (with_reducible refine (spec_PairRound.calls k _ _ t408 t413 t414 _ ?side1 ?side2 A3.out).mono ?_); (case side1 => repeat (first | exact (Kd.S_reads' HO410.out).2.2 | (with_reducible first | refine cA ?_ _ | refine cN ?_ _ | refine cD ?_))); (case side2 => exact (Kd.S_reads' HO410.out).2.1); rintro e w7 ⟨v415, rfl, ho0, hb⟩; refine ⟨_, rfl, ?_⟩; have n0_ := Aside0.mk (Kd.S_below (by (with_reducible repeat (first | apply sA | apply sN | apply sD)); exact HO410.out) hb); have n1_ := Aside0.mk (Kd.R_lower ho0 (keep_size (w := w) (g := g) (row := none) (by repeat (first | (with_reducible first | exact HK.out | apply KeepBut.set_ | apply keep_drewN | apply keep_drew | apply keep_alloc) | exact HK.out)))); have n2_ := Aside0.mk (IsS105.below (by repeat (first | (with_reducible first | exact HI0.out | apply IsS105.alloc | apply IsS105.drewN | apply IsS105.drew | apply IsS105.set_1 | apply IsS105.set_2) | exact HI0.out)) hb); have n3_ := Aside0.mk (KeepBut.trans (by repeat (first | (with_reducible first | exact HK.out | apply KeepBut.set_ | apply keep_drewN | apply keep_drew | apply keep_alloc) | exact HK.out)) (KeepBut.of_below hb g none) (.inl rfl)); have n4_ := Aside0.mk (below_step (by repeat (first | (with_reducible first | exact HB.out | apply bA | apply bN | apply bD | refine below_set ?_ (IsS105.ge HI0.out)) | exact HB.out)) hb); clear HO410; clear HI0; clear HK; clear HB; have HO410 := n0_; have HO416 := n1_; have HI0 := n2_; have HK := n3_; have HB := n4_; clear n0_ n1_ n2_ n3_ n4_; (try clear hb); (try clear hb2); (try clear hk); (try clear hi); (try clear ho0)) | ((with_reducible refine gate_callee (f := 92) rfl ?_); refine goesL_ (some 17) rfl rfl Try.func92 (by kernel_rfl) rfl #[.pointer (some ⟨g, 0, none⟩)] rfl (by (try simp only [Y1, Y2, Y3]); first | done | rfl | (simp only [Y4, Y5]; rfl)) ?_; (with_reducible refine (spec_l21Any.calls k g s0_0 t411 t412 t417 t420 t421 w0 _ ?side1 ?side2 A4.out).mono ?_); (case side1 => repeat (first | (with_reducible first | exact HI0.out | apply IsS105.alloc | apply IsS105.drewN | apply IsS105.drew | apply IsS105.set_1 | apply IsS105.set_2) | exact HI0.out)); (case side2 => repeat (first | (with_reducible first | exact HB.out | apply bA | apply bN | apply bD | refine below_set ?_ (IsS105.ge HI0.out)) | exact HB.out)); rintro e w8 ⟨v418, rfl, ho0, hi, hb, hk⟩; refine ⟨_, rfl, ?_⟩; replace HO410 := Aside0.mk (Kd.S_mono (Kd.S_keep (IsS105.apartS (show IsS105 w0 _ g s0_0 t411 t412 from by repeat (first | (with_reducible first | exact HI0.out | apply IsS105.alloc | apply IsS105.drewN | apply IsS105.drew | apply IsS105.set_1 | apply IsS105.set_2) | exact HI0.out)) (by (with_reducible repeat (first | apply sA | apply sN | apply sD)); exact HO410.out) (by decide)) hk (fun _ h => h.2)) (fun _ h => h.1)); replace HO416 := Aside0.mk (Kd.R_mono (Kd.R_keep (IsS105.apart (show IsS105 w0 _ g s0_0 t411 t412 from by repeat (first | (with_reducible first | exact HI0.out | apply IsS105.alloc | apply IsS105.drewN | apply IsS105.drew | apply IsS105.set_1 | apply IsS105.set_2) | exact HI0.out)) (by (with_reducible repeat (first | apply rA | apply rN | apply rD)); exact HO416.out) (by decide)) hk (fun _ h => h.2)) (fun _ h => h.1)); replace HO419 := Aside0.mk (Kd.S_lower ho0 (keep_size (w := w) (g := g) (row := none) (by repeat (first | (with_reducible first | exact HK.out | apply KeepBut.set_ | apply keep_drewN | apply keep_drew | apply keep_alloc) | exact HK.out)))); replace HK := Aside0.mk (KeepBut.trans (by repeat (first | (with_reducible first | exact HK.out | apply KeepBut.set_ | apply keep_drewN | apply keep_drew | apply keep_alloc) | exact HK.out)) hk (.inl rfl)); replace HB := Aside0.mk (hb); replace HI0 := Aside0.mk (hi); (try clear hb); (try clear hb2); (try clear hk); (try clear hi); (try clear ho0)))
 go_ret3
 exact ⟨_, _, _, by first | rfl | (simp [*, errW_none, errW_some] <;> rfl), by (with_reducible repeat (first | apply sA | apply sN | apply sD)); exact HO410.out, by (with_reducible repeat (first | apply sA | apply sN | apply sD)); exact HO419.out, by (with_reducible repeat (first | apply rA | apply rN | apply rD)); exact HO416.out, by repeat (first | (with_reducible first | exact HI0.out | apply IsS105.alloc | apply IsS105.drewN | apply IsS105.drew | apply IsS105.set_1 | apply IsS105.set_2) | exact HI0.out), by repeat (first | (with_reducible first | exact HB.out | apply bA | apply bN | apply bD | refine below_set ?_ (IsS105.ge HI0.out)) | exact HB.out), by repeat (first | (with_reducible first | exact HK.out | apply KeepBut.set_ | apply keep_drewN | apply keep_drew | apply keep_alloc) | exact HK.out)⟩
def spec_DrawSeatJudges.f (k : Nat) (l0 : List Int) : Option ((List (S78)) × (List (S46)) × (List (S48))) := (spec_l1New.f k l0).bind fun bt422 => ((spec_l21Case.f k bt422.1 bt422.2.1 bt422.2.2).bind fun bt426 => (some (bt426.1, bt426.2.1, bt426.2.2.1)))
set_option maxHeartbeats 8000000 in
set_option maxRecDepth 100000 in
theorem spec_DrawSeatJudges.calls (k : Nat) (A0 : Option Addr) (c0 : Nat) (l0 : List Int) (r1 : List (S78)) (r2 : List (S46)) (r3 : List (S48)) (w : World) (hr0 : Kd.C (Kd.int .u8) w A0 l0.length l0) (hc0 : l0.length ≤ c0) (h : spec_DrawSeatJudges.f k l0 = some (r1, r2, r3)) :
  Calls Try.prog 41 #[.slice A0 l0.length c0] w fun e w' => ∃ v0_ v1_ v2_ : Value, e = .returned (.tuple #[v0_, v1_, v2_]) ∧ Kd.S k78 78 w' w.heap.size (fun _ => True) v0_ r1 ∧ Kd.S k46 46 w' w.heap.size (fun _ => True) v1_ r2 ∧ Kd.R k48 48 w' w.heap.size (fun _ => True) v2_ r3 ∧ Below w.heap.size w w' := by
 have HR0 := Aside0.mk hr0
 have HC0 := Aside0.mk hc0
 clear hr0 hc0
 have HB := Aside0.mk (Below.refl w.heap.size w)
 have H : ((spec_l1New.f k l0).bind fun bt422 => ((spec_l21Case.f k bt422.1 bt422.2.1 bt422.2.2).bind fun bt426 => (some (bt426.1, bt426.2.1, bt426.2.2.1)))) = some (r1, r2, r3) := h
 clear h
 replace H := Option.bind_eq_some_iff.mp H
 obtain ⟨⟨t422, t423, t424⟩, A20, H⟩ := H
 replace H : ((spec_l21Case.f k t422 t423 t424).bind fun bt426 => (some (bt426.1, bt426.2.1, bt426.2.2.1))) = some (r1, r2, r3) := H
 have A2 := Aside0.mk A20
 clear A20
 replace H := Option.bind_eq_some_iff.mp H
 obtain ⟨⟨t426, t429, t432, t435, t436⟩, A30, H⟩ := H
 replace H : (some (t426, t429, t432)) = some (r1, r2, r3) := H
 have A3 := Aside0.mk A30
 clear A30
 simp only [Option.some.injEq, Prod.mk.injEq] at H
 obtain ⟨rfl, rfl, rfl⟩ := H
 go_enter Try.func41, Try.ntmps41
 go_wp2_with (first | ((with_reducible refine gate_callee (f := 72) rfl ?_); refine goesL_ (some 7) rfl rfl Try.func72 (by kernel_rfl) rfl #[.slice A0 l0.length c0] rfl (by (try simp only [Y1, Y2, Y3]); first | done | rfl | (simp only [Y4, Y5]; rfl)) ?_; (with_reducible refine (spec_l1New.calls k _ _ l0 t422 t423 t424 w _ ?side1 ?side2 ?side3 A2.out).mono ?_); (case side1 => repeat (first | (with_reducible first | exact HB.out | apply bA | apply bN | apply bD) | exact HB.out)); (case side2 => exact HR0.out); (case side3 => exact HC0.out); rintro e w4 ⟨g425, rfl, hi, hb, hb2⟩; refine ⟨_, rfl, ?_⟩; replace HB := Aside0.mk (hb); replace HI425 := Aside0.mk (hi); (try clear hb); (try clear hb2); (try clear hk); (try clear hi)) | ((with_reducible refine gate_callee (f := 73) rfl ?_); refine goesL_ (some 9) rfl rfl Try.func73 (by kernel_rfl) rfl #[.pointer (some ⟨g425, 0, none⟩)] rfl (by (try simp only [Y1, Y2, Y3]); first | done | rfl | (simp only [Y4, Y5]; rfl)) ?_; (with_reducible refine (spec_l21Case.calls k g425 t422 t423 t424 t426 t429 t432 t435 t436 w _ ?side1 ?side2 A3.out).mono ?_); (case side1 => repeat (first | (with_reducible first | exact HI425.out | apply IsS105.alloc | apply IsS105.drewN | apply IsS105.drew | apply IsS105.set_1 | apply IsS105.set_2) | exact HI425.out)); (case side2 => repeat (first | (with_reducible first | exact HB.out | apply bA | apply bN | apply bD | refine below_set ?_ (IsS105.ge HI425.out)) | exact HB.out)); rintro e w5 ⟨v427, v430, v433, rfl, ho0, ho1, ho2, hi, hb, hk⟩; refine ⟨_, rfl, ?_⟩; replace HO428 := Aside0.mk (Kd.S_lower ho0 (below_size (by repeat (first | (with_reducible first | exact HB.out | apply bA | apply bN | apply bD | refine below_set ?_ (IsS105.ge HI425.out)) | exact HB.out)))); replace HO431 := Aside0.mk (Kd.S_lower ho1 (below_size (by repeat (first | (with_reducible first | exact HB.out | apply bA | apply bN | apply bD | refine below_set ?_ (IsS105.ge HI425.out)) | exact HB.out)))); replace HO434 := Aside0.mk (Kd.R_lower ho2 (below_size (by repeat (first | (with_reducible first | exact HB.out | apply bA | apply bN | apply bD | refine below_set ?_ (IsS105.ge HI425.out)) | exact HB.out)))); replace HB := Aside0.mk (hb); replace HI425 := Aside0.mk (hi); (try clear hb); (try clear hb2); (try clear hk); (try clear hi); (try clear ho0); (try clear ho1); (try clear ho2)))
 go_ret3
 exact ⟨_, _, _, by first | rfl | (simp [*, errW_none, errW_some] <;> rfl), by (with_reducible repeat (first | apply sA | apply sN | apply sD)); exact HO428.out, by (with_reducible repeat (first | apply sA | apply sN | apply sD)); exact HO431.out, by (with_reducible repeat (first | apply rA | apply rN | apply rD)); exact HO434.out, by repeat (first | (with_reducible first | exact HB.out | apply bA | apply bN | apply bD | refine below_set ?_ (IsS105.ge HI425.out)) | exact HB.out)⟩
def laws_contains.l0 : Nat → List Int → Int → Int → Option (Bool)
  | 0, _, _, _ => none
  | k + 1, x0, x1, x5 => if x5 < (x0.length : Int) then (if 0 ≤ x5 then (if (rd x0 x5) = x1 then (some true) else (laws_contains.l0 k x0 x1 (wrap64 (x5 + 1)))) else (none)) else (some false)
def laws_contains.f (k : Nat) (l0 : List Int) (a1 : Int) : Option (Bool) := laws_contains.l0 k l0 a1 0
set_option maxHeartbeats 8000000 in
set_option maxRecDepth 100000 in
theorem laws_contains.calls (k : Nat) (A0 : Option Addr) (c0 : Nat) (l0 : List Int) (a1 : Int) (r : Bool) (w : World) (hr0 : Kd.C (Kd.int .i64) w A0 l0.length l0) (hc0 : l0.length ≤ c0) (h : laws_contains.f k l0 a1 = some r) :
  Calls Try.prog 44 #[.slice A0 l0.length c0, .int .i64 a1] w fun e w' => e = .returned (.bool r) ∧ Drawn0 w w' := by
 have HR0 := Aside0.mk hr0
 have HC0 := Aside0.mk hc0
 clear hr0 hc0
 have H : (laws_contains.l0 k l0 a1 0) = some r := h
 clear h
 have H' := Aside0.mk H
 clear H
 go_enter Try.func44, Try.ntmps44
 go_wp2
 go_loopg [5] k (fun kq v5 w' => ∃ (x5_1 : Int), v5 = .int .i64 x5_1 ∧ Aside0 (laws_contains.l0 kq l0 a1 x5_1 = some r) ∧ Aside0 (kq ≤ k) ∧ Drawn0 w w')
 case atStart => exact ⟨(0), (by first | rfl | (simp; done) | (simp [*]; done)), H', ⟨Nat.le_refl _⟩, by repeat (first | exact Drawn0.refl _ | apply Drawn0.step)⟩
 case round =>
  clear H'
  try clear p2
  obtain ⟨x5_1, rfl, HA, HK1, ⟨m1, rfl⟩⟩ := hrel
  cases gk with
  | zero => exact absurd HA.out (by simp [laws_contains.l0])
  | succ k1 =>
   have H := HA.out
   clear HA
   simp only [laws_contains.l0] at H
   by_cases c3 : x5_1 < (l0.length : Int)
   ·
    rw [if_pos c3] at H
    have c3b0 : decide (x5_1 < (l0.length : Int)) = true := decide_eq_true c3
    clear c3
    by_cases c4 : 0 ≤ x5_1
    ·
     rw [if_pos c4] at H
     have c4b0 : decide (0 ≤ x5_1) = true := decide_eq_true c4
     clear c4
     by_cases c5 : (rd l0 x5_1) = a1
     ·
      rw [if_pos c5] at H
      have c5b0 : ((rd l0 x5_1) == a1) = true := beq_iff_eq.mpr c5
      have c5b1 : ((rd l0 x5_1) != a1) = false := bne_eq_false_iff_eq.mpr c5
      clear c5
      obtain rfl := Option.some.inj H
      have p437 : 0 ≤ (x5_1 : Int) := of_decide_eq_true (by first | (with_reducible assumption) | assumption)
      have q437 : x5_1 < (l0.length : Int) := of_decide_eq_true (by first | (with_reducible assumption) | assumption)
      obtain ⟨ad437, e437, hx437_0⟩ := Kd.at_int HR0.out x5_1 p437 q437
      cases e437
      replace p437 := eq_true p437
      replace q437 := eq_true q437
      go_wp2
      go_ret
      exact ⟨by first | rfl | (simp; done) | (simp [*]; done), by repeat (first | exact Drawn0.refl _ | apply Drawn0.step)⟩
     ·
      rw [if_neg c5] at H
      have c5b0 : ((rd l0 x5_1) == a1) = false := beq_eq_false_iff_ne.mpr c5
      have c5b1 : ((rd l0 x5_1) != a1) = true := bne_iff_ne.mpr c5
      have H' := Aside0.mk H
      clear H
      have p437 : 0 ≤ (x5_1 : Int) := of_decide_eq_true (by first | (with_reducible assumption) | assumption)
      have q437 : x5_1 < (l0.length : Int) := of_decide_eq_true (by first | (with_reducible assumption) | assumption)
      obtain ⟨ad437, e437, hx437_0⟩ := Kd.at_int HR0.out x5_1 p437 q437
      cases e437
      replace p437 := eq_true p437
      replace q437 := eq_true q437
      go_wp2
      go_roundg k1
      case measure => have := HK1.out; omega
      case rel => exact ⟨(wrap64 (x5_1 + 1)), (by first | rfl | (simp; done) | (simp [*]; done)), H', ⟨by have := HK1.out; omega⟩, by repeat (first | exact Drawn0.refl _ | apply Drawn0.step)⟩
    ·
     rw [if_neg c4] at H
     exact absurd H (by simp)
   ·
    rw [if_neg c3] at H
    have c3b0 : decide (x5_1 < (l0.length : Int)) = false := decide_eq_false c3
    clear c3
    obtain rfl := Option.some.inj H
    go_wp2
    go_ret
    exact ⟨by first | rfl | (simp; done) | (simp [*]; done), by repeat (first | exact Drawn0.refl _ | apply Drawn0.step)⟩
mutual
def laws_seating.l0 : Nat → List (S78) → List (S46) → List (S48) → List Int → Int → Option (Bool)
  | 0, _, _, _, _, _ => none
  | k + 1, x0, x1, x2, x3, x9 => if x9 < (x1.length : Int) then (if 0 ≤ x9 then ((laws_contains.f k x3 ((rd_T46 x1 x9).f0)).bind fun t439 => (if t439 = true then (laws_seating.l0 k x0 x1 x2 x3 (wrap64 (x9 + 1))) else (if 0 < (x2.length : Int) then ((impl_MayJudge.f k x0 ((rd_T46 x1 x9).f0) ((rd_T46 x1 x9).f1) ((rd_T46 x1 x9).f2) ((rd_T48 x2 0).f0) ((rd_T48 x2 0).f1)).bind fun t442 => (if t442 = true then (if 1 ≤ (x2.length : Int) then ((some (([] : List Int) : List Int)).bind fun y447 => (if y447.length + x3.length < 17592186044416 then ((some (y447 ++ x3 : List Int)).bind fun y450 => ((some (([(rd_T46 x1 x9).f0] : List Int) : List Int)).bind fun y454 => (if y450.length + y454.length < 17592186044416 then ((laws_seating.f k x0 x1 (x2.drop 1) (y450 ++ y454)).bind fun t460 => (if t460 = true then (some true) else (laws_seating.l0 k x0 x1 x2 x3 (wrap64 (x9 + 1))))) else (none)))) else (none))) else (none)) else (laws_seating.l0 k x0 x1 x2 x3 (wrap64 (x9 + 1))))) else (none)))) else (none)) else (some false)
def laws_seating.f : Nat → List (S78) → List (S46) → List (S48) → List Int → Option (Bool)
  | 0, _, _, _, _ => none
  | k + 1, l0, l1, l2, l3 => if (l2.length : Int) = 0 then (some true) else (laws_seating.l0 k l0 l1 l2 l3 0)
end
def laws_seating.T6 : Bool × List (List Nat × List Nat) := (true, [([], []), ([], []), ([], []), ([1, 2], [1, 2]), ([3], [3]), ([4], [4]), ([0, 5], [0, 5]), ([6], [6]), ([7, 6], [7]), ([8], [8]), ([8], [8]), ([8], [8]), ([10, 11, 8], [8, 10, 11]), ([12, 8], [8, 12]), ([8], [8]), ([14, 8], [8, 14]), ([15, 8], [8, 15]), ([9, 13, 16, 8, 8], [8, 9, 13, 16]), ([8, 17], [8, 17]), ([18, 17], [18]), ([19], [19]), ([19], [19]), ([19], [19]), ([22, 19], [19, 22]), ([19], [19]), ([19], [19]), ([24, 25, 19, 19], [19, 24, 25]), ([19], [19]), ([19], [19]), ([27, 28, 19], [19, 27, 28]), ([29, 19], [19, 29]), ([30, 19], [19, 30]), ([31, 19], [19, 31]), ([26, 32, 26, 19], [19, 26, 32]), ([20, 21, 23, 33, 33, 19], [19, 20, 21, 23, 33]), ([19, 34], [19, 34])])
def laws_seating.B6 : List Nat := [0, 0, 0, 6, 14, 30, 63, 127, 255, 511, 511, 511, 3583, 7679, 511, 16895, 49663, 131071, 262143, 524287, 1048575, 1048575, 1048575, 5242879, 1048575, 1048575, 51380223, 1048575, 1048575, 403701759, 940572671, 2014314495, 4161798143, 8574205951, 17179869183, 34359738367]
theorem laws_seating.tab6 : rtab .any (opsOf Try.f43 6) = laws_seating.T6 := by kernel_rfl
theorem laws_seating.bits6 : waitsOk laws_seating.T6.2 laws_seating.B6 = true := by kernel_rfl
set_option maxHeartbeats 8000000 in
set_option maxRecDepth 100000 in
theorem laws_seating.calls (k : Nat) : ∀ (A0 : Option Addr) (c0 : Nat) (l0 : List (S78)) (A1 : Option Addr) (c1 : Nat) (l1 : List (S46)) (A2 : Option Addr) (c2 : Nat) (l2 : List (S48)) (A3 : Option Addr) (c3 : Nat) (l3 : List Int) (r : Bool) (w : World) (hr0 : Kd.C k78 w A0 l0.length l0) (hc0 : l0.length ≤ c0) (hr1 : Kd.C k46 w A1 l1.length l1) (hc1 : l1.length ≤ c1) (hr2 : Kd.C k48 w A2 l2.length l2) (hc2 : l2.length ≤ c2) (hr3 : Kd.C (Kd.int .i64) w A3 l3.length l3) (hc3 : l3.length ≤ c3) (h : laws_seating.f k l0 l1 l2 l3 = some r),
  Calls Try.prog 43 #[.slice A0 l0.length c0, .slice A1 l1.length c1, .slice A2 l2.length c2, .slice A3 l3.length c3] w fun e w' => e = .returned (.bool r) ∧ Below w.heap.size w w' := by
 induction k using Nat.strongRecOn with
 | _ k ih =>
 intro A0 c0 l0 A1 c1 l1 A2 c2 l2 A3 c3 l3 r w hr0 hc0 hr1 hc1 hr2 hc2 hr3 hc3 h
 cases k with
 | zero => exact absurd h (by simp [laws_seating.f])
 | succ k =>
 simp only [laws_seating.f] at h
 have hu46 := Try.underlying46
 have hu48 := Try.underlying48
 have HR0 := Aside0.mk hr0
 have HC0 := Aside0.mk hc0
 clear hr0 hc0
 have HR1 := Aside0.mk hr1
 have HC1 := Aside0.mk hc1
 clear hr1 hc1
 have HR2 := Aside0.mk hr2
 have HC2 := Aside0.mk hc2
 clear hr2 hc2
 have HR3 := Aside0.mk hr3
 have HC3 := Aside0.mk hc3
 clear hr3 hc3
 have HB := Aside0.mk (Below.refl w.heap.size w)
 have H : (if (l2.length : Int) = 0 then (some true) else (laws_seating.l0 k l0 l1 l2 l3 0)) = some r := h
 clear h
 by_cases c5 : (l2.length : Int) = 0
 rotate_left
 ·
  rw [if_neg c5] at H
  have c5b0 : ((l2.length : Int) == 0) = false := beq_eq_false_iff_ne.mpr c5
  have c5b1 : ((l2.length : Int) != 0) = true := bne_iff_ne.mpr c5
  have c5b2 : ¬ (l2 = []) := fun h_ => c5 (by rw [h_]; rfl)
  have H' := Aside0.mk H
  clear H
  go_enter Try.func43, Try.ntmps43
  go_wp2
  go_loopg [9] k (fun kq v9 w' => ∃ (x9_1 : Int), v9 = .int .i64 x9_1 ∧ Aside0 (laws_seating.l0 kq l0 l1 l2 l3 x9_1 = some r) ∧ Aside0 (kq ≤ k) ∧ Aside0 (Below w.heap.size w w'))
  case atStart => exact ⟨(0), (by first | rfl | (simp; done) | (simp [*]; done)), H', ⟨Nat.le_refl _⟩, ⟨by repeat (first | (with_reducible first | exact HB.out | apply bA | apply bN | apply bD) | exact HB.out)⟩⟩
  case round =>
   clear H'
   try clear c1
   try clear c2
   try clear p2
   try clear c3
   try clear c4
   try clear c5
   try clear c5b0
   try clear c5b1
   try clear c5b2
   obtain ⟨x9_1, rfl, HA, HK1, HB⟩ := hrel
   cases gk with
   | zero => exact absurd HA.out (by simp [laws_seating.l0])
   | succ k1 =>
    have H := HA.out
    clear HA
    simp only [laws_seating.l0] at H
    by_cases c6 : x9_1 < (l1.length : Int)
    rotate_left
    ·
     rw [if_neg c6] at H
     have c6b0 : decide (x9_1 < (l1.length : Int)) = false := decide_eq_false c6
     clear c6
     obtain rfl := Option.some.inj H
     go_wp2
     all_goals (go_ret; exact ⟨by first | rfl | (simp [*, errW_none, errW_some] <;> rfl), by repeat (first | (with_reducible first | exact HB.out | apply bA | apply bN | apply bD) | exact HB.out)⟩)

    rw [if_pos c6] at H
    have c6b0 : decide (x9_1 < (l1.length : Int)) = true := decide_eq_true c6
    clear c6
    by_cases c7 : 0 ≤ x9_1
    rotate_left
    ·
     rw [if_neg c7] at H
     exact absurd H (by simp)
    rw [if_pos c7] at H
    have c7b0 : decide (0 ≤ x9_1) = true := decide_eq_true c7
    clear c7
    replace H := Option.bind_eq_some_iff.mp H
    obtain ⟨t439, A80, H⟩ := H
    replace H : (if t439 = true then (laws_seating.l0 k1 l0 l1 l2 l3 (wrap64 (x9_1 + 1))) else (if 0 < (l2.length : Int) then ((impl_MayJudge.f k1 l0 ((rd_T46 l1 x9_1).f0) ((rd_T46 l1 x9_1).f1) ((rd_T46 l1 x9_1).f2) ((rd_T48 l2 0).f0) ((rd_T48 l2 0).f1)).bind fun t442 => (if t442 = true then (if 1 ≤ (l2.length : Int) then ((some (([] : List Int) : List Int)).bind fun y447 => (if y447.length + l3.length < 17592186044416 then ((some (y447 ++ l3 : List Int)).bind fun y450 => ((some (([(rd_T46 l1 x9_1).f0] : List Int) : List Int)).bind fun y454 => (if y450.length + y454.length < 17592186044416 then ((laws_seating.f k1 l0 l1 (l2.drop 1) (y450 ++ y454)).bind fun t460 => (if t460 = true then (some true) else (laws_seating.l0 k1 l0 l1 l2 l3 (wrap64 (x9_1 + 1))))) else (none)))) else (none))) else (none)) else (laws_seating.l0 k1 l0 l1 l2 l3 (wrap64 (x9_1 + 1))))) else (none))) = some r := H
    have A8 := Aside0.mk A80
    clear A80
    by_cases c9 : t439 = true
    rotate_left
    ·
     replace c9 := Bool.eq_false_iff.mpr c9
     subst c9
     have H1 : (if 0 < (l2.length : Int) then ((impl_MayJudge.f k1 l0 ((rd_T46 l1 x9_1).f0) ((rd_T46 l1 x9_1).f1) ((rd_T46 l1 x9_1).f2) ((rd_T48 l2 0).f0) ((rd_T48 l2 0).f1)).bind fun t442 => (if t442 = true then (if 1 ≤ (l2.length : Int) then ((some (([] : List Int) : List Int)).bind fun y447 => (if y447.length + l3.length < 17592186044416 then ((some (y447 ++ l3 : List Int)).bind fun y450 => ((some (([(rd_T46 l1 x9_1).f0] : List Int) : List Int)).bind fun y454 => (if y450.length + y454.length < 17592186044416 then ((laws_seating.f k1 l0 l1 (l2.drop 1) (y450 ++ y454)).bind fun t460 => (if t460 = true then (some true) else (laws_seating.l0 k1 l0 l1 l2 l3 (wrap64 (x9_1 + 1))))) else (none)))) else (none))) else (none)) else (laws_seating.l0 k1 l0 l1 l2 l3 (wrap64 (x9_1 + 1))))) else (none)) = some r := by rw [if_neg (show ¬ (false = true) by decide)] at H; exact H
     clear H
     have H := H1
     clear H1
     by_cases c11 : 0 < (l2.length : Int)
     rotate_left
     ·
      rw [if_neg c11] at H
      exact absurd H (by simp)
     rw [if_pos c11] at H
     have c11b0 : decide (0 < (l2.length : Int)) = true := decide_eq_true c11
     have c11b1 : decide (0 < l2.length) = true := decide_eq_true (by omega)
     clear c11
     replace H := Option.bind_eq_some_iff.mp H
     obtain ⟨t442, A120, H⟩ := H
     replace H : (if t442 = true then (if 1 ≤ (l2.length : Int) then ((some (([] : List Int) : List Int)).bind fun y447 => (if y447.length + l3.length < 17592186044416 then ((some (y447 ++ l3 : List Int)).bind fun y450 => ((some (([(rd_T46 l1 x9_1).f0] : List Int) : List Int)).bind fun y454 => (if y450.length + y454.length < 17592186044416 then ((laws_seating.f k1 l0 l1 (l2.drop 1) (y450 ++ y454)).bind fun t460 => (if t460 = true then (some true) else (laws_seating.l0 k1 l0 l1 l2 l3 (wrap64 (x9_1 + 1))))) else (none)))) else (none))) else (none)) else (laws_seating.l0 k1 l0 l1 l2 l3 (wrap64 (x9_1 + 1)))) = some r := H
     have A12 := Aside0.mk A120
     clear A120
     by_cases c13 : t442 = true
     rotate_left
     ·
      replace c13 := Bool.eq_false_iff.mpr c13
      subst c13
      have H1 : (laws_seating.l0 k1 l0 l1 l2 l3 (wrap64 (x9_1 + 1))) = some r := by rw [if_neg (show ¬ (false = true) by decide)] at H; exact H
      clear H
      have H := H1
      clear H1
      have H' := Aside0.mk H
      clear H
      try go_wp2
      replace HB := Aside0.mk (below_drew1 HB.out)
      have p438 : 0 ≤ (x9_1 : Int) := od (by assumption)
      have q438 : x9_1 < (l1.length : Int) := od (by assumption)
      obtain ⟨ad438, A438_2, c438_2, e438, hx438_0, hx438_1, hx438_2, hl438_2, hi438_2⟩ := at_T46 HR1.out x9_1 p438 q438
      have hw438_2 := hx438_2
      have hw438_1 := hx438_1
      have hw438_0 := hx438_0
      cases e438
      replace hx438_0 := (HB.out.cell (bl w _ hx438_0)).trans hx438_0
      replace hx438_1 := (HB.out.cell (bl w _ hx438_1)).trans hx438_1
      replace hx438_2 := (HB.out.cell (bl w _ hx438_2)).trans hx438_2
      have HR438_2 := Aside0.mk hi438_2
      have HC438_2 := Aside0.mk hl438_2
      clear hi438_2 hl438_2
      replace p438 := eq_true p438
      replace q438 := eq_true q438
      have p440 : 0 ≤ (x9_1 : Int) := od (by assumption)
      have q440 : x9_1 < (l1.length : Int) := od (by assumption)
      obtain ⟨ad440, A440_2, c440_2, e440, hx440_0, hx440_1, hx440_2, hl440_2, hi440_2⟩ := at_T46 HR1.out x9_1 p440 q440
      have hw440_2 := hx440_2
      have hw440_1 := hx440_1
      have hw440_0 := hx440_0
      obtain rfl : ad438 = ad440 := (by injection e440)
      replace hx440_0 := (HB.out.cell (bl w _ hx440_0)).trans hx440_0
      replace hx440_1 := (HB.out.cell (bl w _ hx440_1)).trans hx440_1
      replace hx440_2 := (HB.out.cell (bl w _ hx440_2)).trans hx440_2
      have HR440_2 := Aside0.mk hi440_2
      have HC440_2 := Aside0.mk hl440_2
      clear hi440_2 hl440_2
      replace p440 := eq_true p440
      replace q440 := eq_true q440
      have ea_ := Option.some.inj (hx438_2.symm.trans hx440_2)
      injection ea_ with ea_ en_ ec_
      subst ea_
      subst ec_
      clear en_
      have p441 : 0 ≤ (0 : Int) := (by omega)
      have q441 : 0 < (l2.length : Int) := od (by assumption)
      obtain ⟨ad441, e441, hx441_0, hx441_1⟩ := at_T48 HR2.out 0 p441 q441
      have hw441_1 := hx441_1
      (try rw [show ((0 : Int)).toNat = 0 from rfl] at hw441_1)
      (try rw [show 0 * 2 = 0 from rfl] at hw441_1)
      (try rw [Addr.add_zero'] at hw441_1)
      have hw441_0 := hx441_0
      (try rw [show ((0 : Int)).toNat = 0 from rfl] at hw441_0)
      (try rw [show 0 * 2 = 0 from rfl] at hw441_0)
      (try rw [Addr.add_zero'] at hw441_0)
      cases e441
      have qi441 : (0 < l2.length) = True := eq_true (by omega)
      (try rw [show ((0 : Int)).toNat = 0 from rfl] at hx441_0)
      (try rw [show 0 * 2 = 0 from rfl] at hx441_0)
      (try rw [Addr.add_zero'] at hx441_0)
      (try rw [show ((0 : Int)).toNat = 0 from rfl] at hx441_1)
      (try rw [show 0 * 2 = 0 from rfl] at hx441_1)
      (try rw [Addr.add_zero'] at hx441_1)
      replace hx441_0 := (HB.out.cell (bl w _ hx441_0)).trans hx441_0
      replace hx441_1 := (HB.out.cell (bl w _ hx441_1)).trans hx441_1
      replace p441 := eq_true p441
      replace q441 := eq_true q441
      refine start_ (n := 36) (S := fun w' => w'.cell? (ad438.add ((x9_1).toNat * 3)) = some (.int .i64 ((rd_T46 l1 x9_1).f0)) ∧ w'.cell? ⟨(ad438.add ((x9_1).toNat * 3)).block, (ad438.add ((x9_1).toNat * 3)).off + 1, none⟩ = some (.int .i64 ((rd_T46 l1 x9_1).f1)) ∧ w'.cell? ⟨(ad438.add ((x9_1).toNat * 3)).block, (ad438.add ((x9_1).toNat * 3)).off + 2, none⟩ = some (.slice A438_2 ((rd_T46 l1 x9_1).f2).length c438_2) ∧ w'.cell? (ad438.add ((x9_1).toNat * 3)) = some (.int .i64 ((rd_T46 l1 x9_1).f0)) ∧ w'.cell? ⟨(ad438.add ((x9_1).toNat * 3)).block, (ad438.add ((x9_1).toNat * 3)).off + 1, none⟩ = some (.int .i64 ((rd_T46 l1 x9_1).f1)) ∧ w'.cell? ⟨(ad438.add ((x9_1).toNat * 3)).block, (ad438.add ((x9_1).toNat * 3)).off + 2, none⟩ = some (.slice A438_2 ((rd_T46 l1 x9_1).f2).length c438_2) ∧ w'.cell? ad441 = some (.int .i64 ((rd_T48 l2 0).f0)) ∧ w'.cell? ⟨ad441.block, ad441.off + 1, none⟩ = some (.int .i64 ((rd_T48 l2 0).f1))) (ds := []) (bv 36 0) (by kernel_rfl) rfl rfl ⟨((HB.out.cell (bl w _ hw438_0)).trans hw438_0), ((HB.out.cell (bl w _ hw438_1)).trans hw438_1), ((HB.out.cell (bl w _ hw438_2)).trans hw438_2), ((HB.out.cell (bl w _ hw440_0)).trans hw440_0), ((HB.out.cell (bl w _ hw440_1)).trans hw440_1), ((HB.out.cell (bl w _ hw440_2)).trans hw440_2), ((HB.out.cell (bl w _ hw441_0)).trans hw441_0), ((HB.out.cell (bl w _ hw441_1)).trans hw441_1)⟩ (fun hHeld => ?_); refine with_tabW laws_seating.tab6 laws_seating.bits6 (fun HT_ HW_ => ?_)
      generalize wr.drew = w45 at HB HR438_2 HR440_2 hx438_0 hx438_1 hx438_2 hx440_0 hx440_1 hx440_2 hx441_0 hx441_1 hHeld ⊢
      refine pv_ 36 0 19 1 rfl rfl HT_ ?_; refine pv_ 36 1 20 3 rfl rfl HT_ ?_; refine pv_ 36 2 21 7 rfl rfl HT_ ?_; refine pv_ 36 3 22 15 rfl rfl HT_ ?_; refine pv_ 36 4 23 31 rfl rfl HT_ ?_
      refine tv_ 36 5 24 63 rfl rfl HT_ HW_ hHeld (by rintro w' ⟨s0, s1, s2, s3, s4, s5, s6, s7⟩; go_simp; with_reducible rfl) ?_
      refine one_ (i := 6) (N := some 25) (bv 36 127) rfl rfl (one_of HT_.out (by kernel_rfl)) (by decide) (fun K hK => ?_)
      refine goes_ Try.func44 (by kernel_rfl) rfl #[.slice A3 l3.length c3, .int .i64 ((rd_T46 l1 x9_1).f0)] (by rfl) rfl rfl (by (try simp only [Y1, Y2, Y3]); first | done | rfl | (simp only [Y4, Y5]; rfl)) ?_
      with_reducible refine (laws_contains.calls k1 _ _ l3 ((rd_T46 l1 x9_1).f0) false _ ?side1 ?side2 A8.out).mono ?_
      (case side1 => repeat (first | exact (Kd.C_below HR3.out HB.out) | (with_reducible first | refine cA ?_ _ | refine cN ?_ _ | refine cD ?_)))
      (case side2 => exact HC3.out)
      rintro e w' ⟨rfl, ⟨nd, rfl⟩⟩
      refine ⟨_, rfl, ?_⟩
      refine hK.out _ _ ⟨((HB.out.cell (bl w _ hw438_0)).trans hw438_0), ((HB.out.cell (bl w _ hw438_1)).trans hw438_1), ((HB.out.cell (bl w _ hw438_2)).trans hw438_2), ((HB.out.cell (bl w _ hw440_0)).trans hw440_0), ((HB.out.cell (bl w _ hw440_1)).trans hw440_1), ((HB.out.cell (bl w _ hw440_2)).trans hw440_2), ((HB.out.cell (bl w _ hw441_0)).trans hw441_0), ((HB.out.cell (bl w _ hw441_1)).trans hw441_1)⟩ (fun hHeld => ?_)
      clear hK K
      refine nm_ 25 ?_
      refine pv_ 36 7 26 255 rfl rfl HT_ ?_; refine pv_ 36 8 27 511 rfl rfl HT_ ?_; refine pv_ 36 9 28 1023 rfl rfl HT_ ?_; refine pv_ 36 10 29 2047 rfl rfl HT_ ?_; refine pv_ 36 11 30 4095 rfl rfl HT_ ?_; refine pv_ 36 12 31 8191 rfl rfl HT_ ?_; refine pv_ 36 14 33 24575 rfl rfl HT_ ?_; refine pv_ 36 15 34 57343 rfl rfl HT_ ?_
      refine tv_ 36 13 32 65535 rfl rfl HT_ HW_ hHeld (by rintro w' ⟨s0, s1, s2, s3, s4, s5, s6, s7⟩; go_simp; with_reducible rfl) ?_
      refine tv_ 36 16 35 131071 rfl rfl HT_ HW_ hHeld (by rintro w' ⟨s0, s1, s2, s3, s4, s5, s6, s7⟩; go_simp; with_reducible rfl) ?_
      refine one_ (i := 17) (N := some 36) (bv 36 262143) rfl rfl (one_of HT_.out (by kernel_rfl)) (by decide) (fun K hK => ?_)
      refine goes_ Try.func28 (by kernel_rfl) rfl #[.slice A0 l0.length c0, .agg #[.int .i64 ((rd_T46 l1 x9_1).f0), .int .i64 ((rd_T46 l1 x9_1).f1), .slice A438_2 ((rd_T46 l1 x9_1).f2).length c438_2], .agg #[.int .i64 ((rd_T48 l2 0).f0), .int .i64 ((rd_T48 l2 0).f1)]] (by rfl) rfl rfl (by (try simp only [Y1, Y2, Y3]); first | done | rfl | (simp only [Y4, Y5]; rfl)) ?_
      with_reducible refine (impl_MayJudge.calls k1 _ _ l0 ((rd_T46 l1 x9_1).f0) ((rd_T46 l1 x9_1).f1) _ _ ((rd_T46 l1 x9_1).f2) ((rd_T48 l2 0).f0) ((rd_T48 l2 0).f1) false _ ?side1 ?side2 ?side3 ?side4 A12.out).mono ?_
      (case side1 => repeat (first | exact (Kd.C_below HR0.out (by repeat (first | (with_reducible first | exact HB.out | apply bA | apply bN | apply bD) | exact HB.out))) | (with_reducible first | refine cA ?_ _ | refine cN ?_ _ | refine cD ?_)))
      (case side2 => exact HC0.out)
      (case side3 => repeat (first | exact (Kd.C_below HR440_2.out (by repeat (first | (with_reducible first | exact HB.out | apply bA | apply bN | apply bD) | exact HB.out))) | (with_reducible first | refine cA ?_ _ | refine cN ?_ _ | refine cD ?_)))
      (case side4 => exact HC440_2.out)
      rintro e w46 ⟨rfl, hb⟩
      refine ⟨_, rfl, ?_⟩
      replace HB := Aside0.mk (below_step (by repeat (first | (with_reducible first | exact HB.out | apply bA | apply bN | apply bD) | exact HB.out)) hb)
      (try clear hb)
      (try clear hb2)
      (try clear hk)
      (try clear hi)
      refine hK.out _ _ ⟨((HB.out.cell (bl w _ hw438_0)).trans hw438_0), ((HB.out.cell (bl w _ hw438_1)).trans hw438_1), ((HB.out.cell (bl w _ hw438_2)).trans hw438_2), ((HB.out.cell (bl w _ hw440_0)).trans hw440_0), ((HB.out.cell (bl w _ hw440_1)).trans hw440_1), ((HB.out.cell (bl w _ hw440_2)).trans hw440_2), ((HB.out.cell (bl w _ hw441_0)).trans hw441_0), ((HB.out.cell (bl w _ hw441_1)).trans hw441_1)⟩ (fun hHeld => ?_)
      clear hK K
      refine nm_ 36 ?_
      refine pv_ 36 18 37 524287 rfl rfl HT_ ?_; refine pv_ 36 19 38 1048575 rfl rfl HT_ ?_; refine pu_ 36 20 39 2097151 rfl rfl HT_ ?_; refine pu_ 36 21 40 4194303 rfl rfl HT_ ?_; refine pu_ 36 22 41 8388607 rfl rfl HT_ ?_; refine pu_ 36 23 42 16777215 rfl rfl HT_ ?_; refine pu_ 36 24 43 33554431 rfl rfl HT_ ?_; refine pu_ 36 25 44 67108863 rfl rfl HT_ ?_; refine pu_ 36 26 45 134217727 rfl rfl HT_ ?_; refine pu_ 36 27 46 268435455 rfl rfl HT_ ?_; refine pu_ 36 28 47 536870911 rfl rfl HT_ ?_; refine pu_ 36 29 48 1073741823 rfl rfl HT_ ?_; refine pu_ 36 30 49 2147483647 rfl rfl HT_ ?_; refine pu_ 36 31 50 4294967295 rfl rfl HT_ ?_; refine pu_ 36 32 51 8589934591 rfl rfl HT_ ?_; refine pu_ 36 33 52 17179869183 rfl rfl HT_ ?_; refine pu_ 36 34 53 34359738367 rfl rfl HT_ ?_; refine pv_ 36 35 54 68719476735 rfl rfl HT_ ?_
      refine done_ (done_of HT_.out (by kernel_rfl)) ?_
      try go_wp2
      go_roundg k1
      case measure => have := HK1.out; omega
      case rel => exact ⟨(wrap64 (x9_1 + 1)), (by first | rfl | (simp; done) | (simp [*]; done)), H', ⟨by have := HK1.out; omega⟩, ⟨by repeat (first | (with_reducible first | exact HB.out | apply bA | apply bN | apply bD) | exact HB.out)⟩⟩
     subst c13
     have H1 : (if 1 ≤ (l2.length : Int) then ((some (([] : List Int) : List Int)).bind fun y447 => (if y447.length + l3.length < 17592186044416 then ((some (y447 ++ l3 : List Int)).bind fun y450 => ((some (([(rd_T46 l1 x9_1).f0] : List Int) : List Int)).bind fun y454 => (if y450.length + y454.length < 17592186044416 then ((laws_seating.f k1 l0 l1 (l2.drop 1) (y450 ++ y454)).bind fun t460 => (if t460 = true then (some true) else (laws_seating.l0 k1 l0 l1 l2 l3 (wrap64 (x9_1 + 1))))) else (none)))) else (none))) else (none)) = some r := by rw [if_pos rfl] at H; exact H
     clear H
     have H := H1
     clear H1
     by_cases c14 : 1 ≤ (l2.length : Int)
     rotate_left
     ·
      rw [if_neg c14] at H
      exact absurd H (by simp)
     rw [if_pos c14] at H
     have c14b0 := eq_true c14
     have c14b1 : decide (1 ≤ (l2.length : Int)) = true := decide_eq_true c14
     clear c14
     obtain ⟨y443, hy443⟩ : ∃ y_ : List (S48), y_ = (l2.drop 1) := ⟨_, rfl⟩
     replace H : ((some (([] : List Int) : List Int)).bind fun y447 => (if y447.length + l3.length < 17592186044416 then ((some (y447 ++ l3 : List Int)).bind fun y450 => ((some (([(rd_T46 l1 x9_1).f0] : List Int) : List Int)).bind fun y454 => (if y450.length + y454.length < 17592186044416 then ((laws_seating.f k1 l0 l1 y443 (y450 ++ y454)).bind fun t460 => (if t460 = true then (some true) else (laws_seating.l0 k1 l0 l1 l2 l3 (wrap64 (x9_1 + 1))))) else (none)))) else (none))) = some r := by first | (rw [hy443]; with_reducible exact H) | (have H2_ := (Option.bind_some _ _).symm.trans H; rw [hy443]; with_reducible exact H2_) | (have H2_ := (Option.bind_some _ _).symm.trans H; with_reducible exact H2_) | with_reducible exact H | (rw [hy443]; exact H) | exact H
     have Ny443 := Aside0.mk hy443
     clear hy443
     obtain ⟨y447, hy447⟩ : ∃ y_ : List Int, y_ = (([] : List Int)) := ⟨_, rfl⟩
     replace H : (if y447.length + l3.length < 17592186044416 then ((some (y447 ++ l3 : List Int)).bind fun y450 => ((some (([(rd_T46 l1 x9_1).f0] : List Int) : List Int)).bind fun y454 => (if y450.length + y454.length < 17592186044416 then ((laws_seating.f k1 l0 l1 y443 (y450 ++ y454)).bind fun t460 => (if t460 = true then (some true) else (laws_seating.l0 k1 l0 l1 l2 l3 (wrap64 (x9_1 + 1))))) else (none)))) else (none)) = some r := by first | (rw [hy447]; with_reducible exact H) | (have H2_ := (Option.bind_some _ _).symm.trans H; rw [hy447]; with_reducible exact H2_) | (have H2_ := (Option.bind_some _ _).symm.trans H; with_reducible exact H2_) | with_reducible exact H | (rw [hy447]; exact H) | exact H
     have Ny447 := Aside0.mk hy447
     clear hy447
     by_cases c15 : y447.length + l3.length < 17592186044416
     rotate_left
     ·
      rw [if_neg c15] at H
      exact absurd H (by simp)
     rw [if_pos c15] at H
     have LMc15 := Aside0.mk c15
     clear c15
     obtain ⟨y450, hy450⟩ : ∃ y_ : List Int, y_ = (y447 ++ l3) := ⟨_, rfl⟩
     replace H : ((some (([(rd_T46 l1 x9_1).f0] : List Int) : List Int)).bind fun y454 => (if y450.length + y454.length < 17592186044416 then ((laws_seating.f k1 l0 l1 y443 (y450 ++ y454)).bind fun t460 => (if t460 = true then (some true) else (laws_seating.l0 k1 l0 l1 l2 l3 (wrap64 (x9_1 + 1))))) else (none))) = some r := by first | (rw [hy450]; with_reducible exact H) | (have H2_ := (Option.bind_some _ _).symm.trans H; rw [hy450]; with_reducible exact H2_) | (have H2_ := (Option.bind_some _ _).symm.trans H; with_reducible exact H2_) | with_reducible exact H | (rw [hy450]; exact H) | exact H
     have Ny450 := Aside0.mk hy450
     clear hy450
     obtain ⟨y454, hy454⟩ : ∃ y_ : List Int, y_ = (([(rd_T46 l1 x9_1).f0] : List Int)) := ⟨_, rfl⟩
     replace H : (if y450.length + y454.length < 17592186044416 then ((laws_seating.f k1 l0 l1 y443 (y450 ++ y454)).bind fun t460 => (if t460 = true then (some true) else (laws_seating.l0 k1 l0 l1 l2 l3 (wrap64 (x9_1 + 1))))) else (none)) = some r := by first | (rw [hy454]; with_reducible exact H) | (have H2_ := (Option.bind_some _ _).symm.trans H; rw [hy454]; with_reducible exact H2_) | (have H2_ := (Option.bind_some _ _).symm.trans H; with_reducible exact H2_) | with_reducible exact H | (rw [hy454]; exact H) | exact H
     have Ny454 := Aside0.mk hy454
     clear hy454
     by_cases c16 : y450.length + y454.length < 17592186044416
     rotate_left
     ·
      rw [if_neg c16] at H
      exact absurd H (by simp)
     rw [if_pos c16] at H
     have LMc16 := Aside0.mk c16
     clear c16
     obtain ⟨y457, hy457⟩ : ∃ y_ : List Int, y_ = (y450 ++ y454) := ⟨_, rfl⟩
     replace H : ((laws_seating.f k1 l0 l1 y443 y457).bind fun t460 => (if t460 = true then (some true) else (laws_seating.l0 k1 l0 l1 l2 l3 (wrap64 (x9_1 + 1))))) = some r := by first | (rw [hy457]; with_reducible exact H) | (have H2_ := (Option.bind_some _ _).symm.trans H; rw [hy457]; with_reducible exact H2_) | (have H2_ := (Option.bind_some _ _).symm.trans H; with_reducible exact H2_) | with_reducible exact H | (rw [hy457]; exact H) | exact H
     have Ny457 := Aside0.mk hy457
     clear hy457
     replace H := Option.bind_eq_some_iff.mp H
     obtain ⟨t460, A170, H⟩ := H
     replace H : (if t460 = true then (some true) else (laws_seating.l0 k1 l0 l1 l2 l3 (wrap64 (x9_1 + 1)))) = some r := H
     have A17 := Aside0.mk A170
     clear A170
     by_cases c18 : t460 = true
     rotate_left
     ·
      replace c18 := Bool.eq_false_iff.mpr c18
      subst c18
      have H1 : (laws_seating.l0 k1 l0 l1 l2 l3 (wrap64 (x9_1 + 1))) = some r := by rw [if_neg (show ¬ (false = true) by decide)] at H; exact H
      clear H
      have H := H1
      clear H1
      have H' := Aside0.mk H
      clear H
      try go_wp2
      replace HB := Aside0.mk (below_drew1 HB.out)
      have p438 : 0 ≤ (x9_1 : Int) := od (by assumption)
      have q438 : x9_1 < (l1.length : Int) := od (by assumption)
      obtain ⟨ad438, A438_2, c438_2, e438, hx438_0, hx438_1, hx438_2, hl438_2, hi438_2⟩ := at_T46 HR1.out x9_1 p438 q438
      have hw438_2 := hx438_2
      have hw438_1 := hx438_1
      have hw438_0 := hx438_0
      cases e438
      replace hx438_0 := (HB.out.cell (bl w _ hx438_0)).trans hx438_0
      replace hx438_1 := (HB.out.cell (bl w _ hx438_1)).trans hx438_1
      replace hx438_2 := (HB.out.cell (bl w _ hx438_2)).trans hx438_2
      have HR438_2 := Aside0.mk hi438_2
      have HC438_2 := Aside0.mk hl438_2
      clear hi438_2 hl438_2
      replace p438 := eq_true p438
      replace q438 := eq_true q438
      have p440 : 0 ≤ (x9_1 : Int) := od (by assumption)
      have q440 : x9_1 < (l1.length : Int) := od (by assumption)
      obtain ⟨ad440, A440_2, c440_2, e440, hx440_0, hx440_1, hx440_2, hl440_2, hi440_2⟩ := at_T46 HR1.out x9_1 p440 q440
      have hw440_2 := hx440_2
      have hw440_1 := hx440_1
      have hw440_0 := hx440_0
      obtain rfl : ad438 = ad440 := (by injection e440)
      replace hx440_0 := (HB.out.cell (bl w _ hx440_0)).trans hx440_0
      replace hx440_1 := (HB.out.cell (bl w _ hx440_1)).trans hx440_1
      replace hx440_2 := (HB.out.cell (bl w _ hx440_2)).trans hx440_2
      have HR440_2 := Aside0.mk hi440_2
      have HC440_2 := Aside0.mk hl440_2
      clear hi440_2 hl440_2
      replace p440 := eq_true p440
      replace q440 := eq_true q440
      have ea_ := Option.some.inj (hx438_2.symm.trans hx440_2)
      injection ea_ with ea_ en_ ec_
      subst ea_
      subst ec_
      clear en_
      have p441 : 0 ≤ (0 : Int) := (by omega)
      have q441 : 0 < (l2.length : Int) := od (by assumption)
      obtain ⟨ad441, e441, hx441_0, hx441_1⟩ := at_T48 HR2.out 0 p441 q441
      have hw441_1 := hx441_1
      (try rw [show ((0 : Int)).toNat = 0 from rfl] at hw441_1)
      (try rw [show 0 * 2 = 0 from rfl] at hw441_1)
      (try rw [Addr.add_zero'] at hw441_1)
      have hw441_0 := hx441_0
      (try rw [show ((0 : Int)).toNat = 0 from rfl] at hw441_0)
      (try rw [show 0 * 2 = 0 from rfl] at hw441_0)
      (try rw [Addr.add_zero'] at hw441_0)
      cases e441
      have qi441 : (0 < l2.length) = True := eq_true (by omega)
      (try rw [show ((0 : Int)).toNat = 0 from rfl] at hx441_0)
      (try rw [show 0 * 2 = 0 from rfl] at hx441_0)
      (try rw [Addr.add_zero'] at hx441_0)
      (try rw [show ((0 : Int)).toNat = 0 from rfl] at hx441_1)
      (try rw [show 0 * 2 = 0 from rfl] at hx441_1)
      (try rw [Addr.add_zero'] at hx441_1)
      replace hx441_0 := (HB.out.cell (bl w _ hx441_0)).trans hx441_0
      replace hx441_1 := (HB.out.cell (bl w _ hx441_1)).trans hx441_1
      replace p441 := eq_true p441
      replace q441 := eq_true q441
      have p453 : 0 ≤ (x9_1 : Int) := od (by assumption)
      have q453 : x9_1 < (l1.length : Int) := od (by assumption)
      obtain ⟨ad453, A453_2, c453_2, e453, hx453_0, hx453_1, hx453_2, hl453_2, hi453_2⟩ := at_T46 HR1.out x9_1 p453 q453
      have hw453_2 := hx453_2
      have hw453_1 := hx453_1
      have hw453_0 := hx453_0
      obtain rfl : ad438 = ad453 := (by injection e453)
      replace hx453_0 := (HB.out.cell (bl w _ hx453_0)).trans hx453_0
      replace hx453_1 := (HB.out.cell (bl w _ hx453_1)).trans hx453_1
      replace hx453_2 := (HB.out.cell (bl w _ hx453_2)).trans hx453_2
      have HR453_2 := Aside0.mk hi453_2
      have HC453_2 := Aside0.mk hl453_2
      clear hi453_2 hl453_2
      replace p453 := eq_true p453
      replace q453 := eq_true q453
      refine start_ (n := 36) (S := fun w' => w'.cell? (ad438.add ((x9_1).toNat * 3)) = some (.int .i64 ((rd_T46 l1 x9_1).f0)) ∧ w'.cell? ⟨(ad438.add ((x9_1).toNat * 3)).block, (ad438.add ((x9_1).toNat * 3)).off + 1, none⟩ = some (.int .i64 ((rd_T46 l1 x9_1).f1)) ∧ w'.cell? ⟨(ad438.add ((x9_1).toNat * 3)).block, (ad438.add ((x9_1).toNat * 3)).off + 2, none⟩ = some (.slice A438_2 ((rd_T46 l1 x9_1).f2).length c438_2) ∧ w'.cell? (ad438.add ((x9_1).toNat * 3)) = some (.int .i64 ((rd_T46 l1 x9_1).f0)) ∧ w'.cell? ⟨(ad438.add ((x9_1).toNat * 3)).block, (ad438.add ((x9_1).toNat * 3)).off + 1, none⟩ = some (.int .i64 ((rd_T46 l1 x9_1).f1)) ∧ w'.cell? ⟨(ad438.add ((x9_1).toNat * 3)).block, (ad438.add ((x9_1).toNat * 3)).off + 2, none⟩ = some (.slice A438_2 ((rd_T46 l1 x9_1).f2).length c438_2) ∧ w'.cell? ad441 = some (.int .i64 ((rd_T48 l2 0).f0)) ∧ w'.cell? ⟨ad441.block, ad441.off + 1, none⟩ = some (.int .i64 ((rd_T48 l2 0).f1)) ∧ w'.cell? (ad438.add ((x9_1).toNat * 3)) = some (.int .i64 ((rd_T46 l1 x9_1).f0)) ∧ w'.cell? ⟨(ad438.add ((x9_1).toNat * 3)).block, (ad438.add ((x9_1).toNat * 3)).off + 1, none⟩ = some (.int .i64 ((rd_T46 l1 x9_1).f1)) ∧ w'.cell? ⟨(ad438.add ((x9_1).toNat * 3)).block, (ad438.add ((x9_1).toNat * 3)).off + 2, none⟩ = some (.slice A453_2 ((rd_T46 l1 x9_1).f2).length c453_2)) (ds := []) (bv 36 0) (by kernel_rfl) rfl rfl ⟨((HB.out.cell (bl w _ hw438_0)).trans hw438_0), ((HB.out.cell (bl w _ hw438_1)).trans hw438_1), ((HB.out.cell (bl w _ hw438_2)).trans hw438_2), ((HB.out.cell (bl w _ hw440_0)).trans hw440_0), ((HB.out.cell (bl w _ hw440_1)).trans hw440_1), ((HB.out.cell (bl w _ hw440_2)).trans hw440_2), ((HB.out.cell (bl w _ hw441_0)).trans hw441_0), ((HB.out.cell (bl w _ hw441_1)).trans hw441_1), ((HB.out.cell (bl w _ hw453_0)).trans hw453_0), ((HB.out.cell (bl w _ hw453_1)).trans hw453_1), ((HB.out.cell (bl w _ hw453_2)).trans hw453_2)⟩ (fun hHeld => ?_); refine with_tabW laws_seating.tab6 laws_seating.bits6 (fun HT_ HW_ => ?_)
      generalize wr.drew = w32 at HB HR438_2 HR440_2 HR453_2 hx438_0 hx438_1 hx438_2 hx440_0 hx440_1 hx440_2 hx441_0 hx441_1 hx453_0 hx453_1 hx453_2 hHeld ⊢
      refine pv_ 36 0 19 1 rfl rfl HT_ ?_; refine pv_ 36 1 20 3 rfl rfl HT_ ?_; refine pv_ 36 2 21 7 rfl rfl HT_ ?_; refine pv_ 36 3 22 15 rfl rfl HT_ ?_; refine pv_ 36 4 23 31 rfl rfl HT_ ?_
      refine tv_ 36 5 24 63 rfl rfl HT_ HW_ hHeld (by rintro w' ⟨s0, s1, s2, s3, s4, s5, s6, s7, s8, s9, s10⟩; go_simp; with_reducible rfl) ?_
      refine one_ (i := 6) (N := some 25) (bv 36 127) rfl rfl (one_of HT_.out (by kernel_rfl)) (by decide) (fun K hK => ?_)
      refine goes_ Try.func44 (by kernel_rfl) rfl #[.slice A3 l3.length c3, .int .i64 ((rd_T46 l1 x9_1).f0)] (by rfl) rfl rfl (by (try simp only [Y1, Y2, Y3]); first | done | rfl | (simp only [Y4, Y5]; rfl)) ?_
      with_reducible refine (laws_contains.calls k1 _ _ l3 ((rd_T46 l1 x9_1).f0) false _ ?side1 ?side2 A8.out).mono ?_
      (case side1 => repeat (first | exact (Kd.C_below HR3.out HB.out) | (with_reducible first | refine cA ?_ _ | refine cN ?_ _ | refine cD ?_)))
      (case side2 => exact HC3.out)
      rintro e w' ⟨rfl, ⟨nd, rfl⟩⟩
      refine ⟨_, rfl, ?_⟩
      refine hK.out _ _ ⟨((HB.out.cell (bl w _ hw438_0)).trans hw438_0), ((HB.out.cell (bl w _ hw438_1)).trans hw438_1), ((HB.out.cell (bl w _ hw438_2)).trans hw438_2), ((HB.out.cell (bl w _ hw440_0)).trans hw440_0), ((HB.out.cell (bl w _ hw440_1)).trans hw440_1), ((HB.out.cell (bl w _ hw440_2)).trans hw440_2), ((HB.out.cell (bl w _ hw441_0)).trans hw441_0), ((HB.out.cell (bl w _ hw441_1)).trans hw441_1), ((HB.out.cell (bl w _ hw453_0)).trans hw453_0), ((HB.out.cell (bl w _ hw453_1)).trans hw453_1), ((HB.out.cell (bl w _ hw453_2)).trans hw453_2)⟩ (fun hHeld => ?_)
      clear hK K
      refine nm_ 25 ?_
      refine pv_ 36 7 26 255 rfl rfl HT_ ?_; refine pv_ 36 8 27 511 rfl rfl HT_ ?_; refine pv_ 36 9 28 1023 rfl rfl HT_ ?_; refine pv_ 36 10 29 2047 rfl rfl HT_ ?_; refine pv_ 36 11 30 4095 rfl rfl HT_ ?_; refine pv_ 36 12 31 8191 rfl rfl HT_ ?_; refine pv_ 36 14 33 24575 rfl rfl HT_ ?_; refine pv_ 36 15 34 57343 rfl rfl HT_ ?_
      refine tv_ 36 13 32 65535 rfl rfl HT_ HW_ hHeld (by rintro w' ⟨s0, s1, s2, s3, s4, s5, s6, s7, s8, s9, s10⟩; go_simp; with_reducible rfl) ?_
      refine tv_ 36 16 35 131071 rfl rfl HT_ HW_ hHeld (by rintro w' ⟨s0, s1, s2, s3, s4, s5, s6, s7, s8, s9, s10⟩; go_simp; with_reducible rfl) ?_
      refine one_ (i := 17) (N := some 36) (bv 36 262143) rfl rfl (one_of HT_.out (by kernel_rfl)) (by decide) (fun K hK => ?_)
      refine goes_ Try.func28 (by kernel_rfl) rfl #[.slice A0 l0.length c0, .agg #[.int .i64 ((rd_T46 l1 x9_1).f0), .int .i64 ((rd_T46 l1 x9_1).f1), .slice A438_2 ((rd_T46 l1 x9_1).f2).length c438_2], .agg #[.int .i64 ((rd_T48 l2 0).f0), .int .i64 ((rd_T48 l2 0).f1)]] (by rfl) rfl rfl (by (try simp only [Y1, Y2, Y3]); first | done | rfl | (simp only [Y4, Y5]; rfl)) ?_
      with_reducible refine (impl_MayJudge.calls k1 _ _ l0 ((rd_T46 l1 x9_1).f0) ((rd_T46 l1 x9_1).f1) _ _ ((rd_T46 l1 x9_1).f2) ((rd_T48 l2 0).f0) ((rd_T48 l2 0).f1) true _ ?side1 ?side2 ?side3 ?side4 A12.out).mono ?_
      (case side1 => repeat (first | exact (Kd.C_below HR0.out (by repeat (first | (with_reducible first | exact HB.out | apply bA | apply bN | apply bD) | exact HB.out))) | (with_reducible first | refine cA ?_ _ | refine cN ?_ _ | refine cD ?_)))
      (case side2 => exact HC0.out)
      (case side3 => repeat (first | exact (Kd.C_below HR440_2.out (by repeat (first | (with_reducible first | exact HB.out | apply bA | apply bN | apply bD) | exact HB.out))) | (with_reducible first | refine cA ?_ _ | refine cN ?_ _ | refine cD ?_)))
      (case side4 => exact HC440_2.out)
      rintro e w33 ⟨rfl, hb⟩
      refine ⟨_, rfl, ?_⟩
      replace HB := Aside0.mk (below_step (by repeat (first | (with_reducible first | exact HB.out | apply bA | apply bN | apply bD) | exact HB.out)) hb)
      (try clear hb)
      (try clear hb2)
      (try clear hk)
      (try clear hi)
      have q34 : (1 : Int) ≤ ((l2.length : Int) : Int) := od (by assumption)
      obtain ⟨i034, hi034, _, hsz34, _⟩ := info_parts info48
      have hroom34 : l2.length ≤ c2 := HC2.out
      have hC34 : Kd.C k48 _ (some ad441) l2.length l2 := HR2.out
      have hcut34 := cut_from (P := Try.prog) 56 48 .i64 Try.underlying56 hi034 2 hsz34 (some ad441) l2.length c2 1 (by omega) q34
      have hr34 := Kd.C_drop (m := (1 : Int).toNat) (c := c2) hC34 (by omega) hroom34
      obtain ⟨A34, hA34⟩ : ∃ A_, A_ = (if c2 = (1 : Int).toNat then (some ad441) else ((some ad441) : Option Addr).map (·.add ((1 : Int).toNat * 2))) := ⟨_, rfl⟩
      obtain ⟨c34, hc34⟩ : ∃ c_, c_ = c2 - (1 : Int).toNat := ⟨_, rfl⟩
      have hy34 : y443.length = l2.length - (1 : Int).toNat := (by rw [Ny443.out, List.length_drop] <;> omega)
      rw [show (l2).drop (1 : Int).toNat = y443 from Ny443.out.symm] at hr34
      replace hr34 : Kd.C k48 _ A34 y443.length y443 := (by rw [hA34]; exact hr34)
      rw [← hy34, ← hA34, ← hc34] at hcut34
      have HR446 := Aside0.mk hr34
      have HC446 := Aside0.mk (show y443.length ≤ c34 from by rw [hy34, hc34]; exact Nat.sub_le_sub_right hroom34 _)
      clear hr34 hC34 hroom34 hi034 hsz34 hc34
      have KY34 := Aside0.mk hy34
      have KA34 := Aside0.mk hA34
      clear hy34 hA34
      replace q34 := eq_true q34
      refine hK.out _ _ ⟨((HB.out.cell (bl w _ hw438_0)).trans hw438_0), ((HB.out.cell (bl w _ hw438_1)).trans hw438_1), ((HB.out.cell (bl w _ hw438_2)).trans hw438_2), ((HB.out.cell (bl w _ hw440_0)).trans hw440_0), ((HB.out.cell (bl w _ hw440_1)).trans hw440_1), ((HB.out.cell (bl w _ hw440_2)).trans hw440_2), ((HB.out.cell (bl w _ hw441_0)).trans hw441_0), ((HB.out.cell (bl w _ hw441_1)).trans hw441_1), ((HB.out.cell (bl w _ hw453_0)).trans hw453_0), ((HB.out.cell (bl w _ hw453_1)).trans hw453_1), ((HB.out.cell (bl w _ hw453_2)).trans hw453_2)⟩ (fun hHeld => ?_)
      clear hK K
      refine nm_ 36 ?_
      refine pv_ 36 18 37 524287 rfl rfl HT_ ?_; refine pv_ 36 19 38 1048575 rfl rfl HT_ ?_; refine pv_ 36 20 39 2097151 rfl rfl HT_ ?_; refine pv_ 36 21 40 4194303 rfl rfl HT_ ?_; refine pv_ 36 22 41 8388607 rfl rfl HT_ ?_; refine pv_ 36 23 42 16777215 rfl rfl HT_ ?_; refine pv_ 36 25 44 50331647 rfl rfl HT_ ?_; refine pv_ 36 27 46 184549375 rfl rfl HT_ ?_; refine pv_ 36 28 47 452984831 rfl rfl HT_ ?_; refine pv_ 36 29 48 989855743 rfl rfl HT_ ?_; refine pv_ 36 30 49 2063597567 rfl rfl HT_ ?_
      refine tv_ 36 31 50 4211081215 rfl rfl HT_ HW_ hHeld (by rintro w' ⟨s0, s1, s2, s3, s4, s5, s6, s7, s8, s9, s10⟩; go_simp; with_reducible rfl) ?_
      refine join_ (σ := Value × Value × Value) 3 (bv 36 8589934591) (fun s_ => [(43, s_.1), (45, s_.2.1), (51, s_.2.2)]) (fun s_ w' => (w'.cell? (ad438.add ((x9_1).toNat * 3)) = some (.int .i64 ((rd_T46 l1 x9_1).f0)) ∧ w'.cell? ⟨(ad438.add ((x9_1).toNat * 3)).block, (ad438.add ((x9_1).toNat * 3)).off + 1, none⟩ = some (.int .i64 ((rd_T46 l1 x9_1).f1)) ∧ w'.cell? ⟨(ad438.add ((x9_1).toNat * 3)).block, (ad438.add ((x9_1).toNat * 3)).off + 2, none⟩ = some (.slice A438_2 ((rd_T46 l1 x9_1).f2).length c438_2) ∧ w'.cell? (ad438.add ((x9_1).toNat * 3)) = some (.int .i64 ((rd_T46 l1 x9_1).f0)) ∧ w'.cell? ⟨(ad438.add ((x9_1).toNat * 3)).block, (ad438.add ((x9_1).toNat * 3)).off + 1, none⟩ = some (.int .i64 ((rd_T46 l1 x9_1).f1)) ∧ w'.cell? ⟨(ad438.add ((x9_1).toNat * 3)).block, (ad438.add ((x9_1).toNat * 3)).off + 2, none⟩ = some (.slice A438_2 ((rd_T46 l1 x9_1).f2).length c438_2) ∧ w'.cell? ad441 = some (.int .i64 ((rd_T48 l2 0).f0)) ∧ w'.cell? ⟨ad441.block, ad441.off + 1, none⟩ = some (.int .i64 ((rd_T48 l2 0).f1)) ∧ w'.cell? (ad438.add ((x9_1).toNat * 3)) = some (.int .i64 ((rd_T46 l1 x9_1).f0)) ∧ w'.cell? ⟨(ad438.add ((x9_1).toNat * 3)).block, (ad438.add ((x9_1).toNat * 3)).off + 1, none⟩ = some (.int .i64 ((rd_T46 l1 x9_1).f1)) ∧ w'.cell? ⟨(ad438.add ((x9_1).toNat * 3)).block, (ad438.add ((x9_1).toNat * 3)).off + 2, none⟩ = some (.slice A453_2 ((rd_T46 l1 x9_1).f2).length c453_2)) ∧ (Kd.R (Kd.int .i64) 3 w' w.heap.size (fun k_ => some k_ ≠ (s_.2.2 : Value).ownBlock) s_.2.1 y450) ∧ (Kd.R (Kd.int .i64) 3 w' w.heap.size (fun k_ => some k_ ≠ (s_.2.1 : Value).ownBlock) s_.2.2 y454) ∧ (Below w.heap.size w w')) ?_ ?_
      rotate_left
      ·
       intro hCont
       refine two_ (i := 24) (j := 32) (Ni := some 43) (Nj := some 51) (bv 36 4227858431) (bv 36 8506048511) rfl rfl rfl rfl (two_of HT_.out (by kernel_rfl)) (by decide) (by decide) (fun K hK => ?_) (fun K hK => ?_)
       ·
        skip
        refine Kd.R_lit_step (Kd.int .i64) _ 3 ?hg (N := 43) ?hd (xs := ([] : List Int)) (inner := []) (ok := fun _ => True) (okp := fun _ => True) ?hr ?hp (fun _ hk => hk) trivial (Below.refl _ _) (Nat.le_refl _) (by simp) ?_; (case hd => rfl); (case hg => rfl); (case hr => first | (go_simp; done) | (go_simp; rfl)); (case hp => exact (Reps.none _ _))
        intro v448 w35 ho36 hb hg_ hnew_
        clear hg_ hnew_
        (first | rw [← Ny447.out] at ho36 | (simp only [Int.reduceToNat] at ho36; rw [← Ny447.out] at ho36))
        replace HO449 := Aside0.mk (Kd.R_lower ho36 (below_size (by repeat (first | (with_reducible first | exact HB.out | apply bA | apply bN | apply bD) | exact HB.out))))
        replace HB := Aside0.mk (below_step (by repeat (first | (with_reducible first | exact HB.out | apply bA | apply bN | apply bD) | exact HB.out)) hb)
        clear hb ho36
        refine hK.out _ _ ⟨((HB.out.cell (bl w _ hw438_0)).trans hw438_0), ((HB.out.cell (bl w _ hw438_1)).trans hw438_1), ((HB.out.cell (bl w _ hw438_2)).trans hw438_2), ((HB.out.cell (bl w _ hw440_0)).trans hw440_0), ((HB.out.cell (bl w _ hw440_1)).trans hw440_1), ((HB.out.cell (bl w _ hw440_2)).trans hw440_2), ((HB.out.cell (bl w _ hw441_0)).trans hw441_0), ((HB.out.cell (bl w _ hw441_1)).trans hw441_1), ((HB.out.cell (bl w _ hw453_0)).trans hw453_0), ((HB.out.cell (bl w _ hw453_1)).trans hw453_1), ((HB.out.cell (bl w _ hw453_2)).trans hw453_2)⟩ (fun hHeld => ?_)
        clear hK K
        refine nm_ 43 ?_
        refine two_ (i := 26) (j := 32) (Ni := some 45) (Nj := some 51) (bv 36 4294967295) (bv 36 8522825727) rfl rfl rfl rfl (two_of HT_.out (by kernel_rfl)) (by decide) (by decide) (fun K hK => ?_) (fun K hK => ?_)
        ·
         skip
         refine Kd.R_append_rows_step (Kd.int .i64) (w0 := w) w.heap.size (by rfl) (.tmp 43) (.tmp 44) 29 3 (.int .i64 0) 8 rfl Try.underlying29 info3 rfl (by decide) (by omega) v448 y447 l3 _ _ _ (fun _ => True) (fun _ => False) rfl rfl ?aO ?aR (fun _ _ h => h) (fun _ h => h.elim) ?aF ?aB ?aS ?aL ?_
         (case aR => repeat (first | exact (Kd.C_below HR3.out HB.out) | (with_reducible first | refine cA ?_ _ | refine cN ?_ _ | refine cD ?_)))
         (case aB => exact (by repeat (first | (with_reducible first | exact HB.out | apply bA | apply bN | apply bD) | exact HB.out)))
         (case aF => exact (fun _ _ => trivial))
         (case aO => exact (by (with_reducible repeat (first | apply rA | apply rN | apply rD)); exact HO449.out))
         (case aS => exact (below_size (by repeat (first | (with_reducible first | exact HB.out | apply bA | apply bN | apply bD) | exact HB.out))))
         (case aL => have := LMc15.out; omega)
         intro v451 w37 ho hb hg hat
         rw [← Ny450.out] at ho
         replace HB := Aside0.mk (hb)
         replace HO452 := Aside0.mk (ho)
         clear HO449
         clear ho hb hg hat
         refine hK.out _ _ ⟨((HB.out.cell (bl w _ hw438_0)).trans hw438_0), ((HB.out.cell (bl w _ hw438_1)).trans hw438_1), ((HB.out.cell (bl w _ hw438_2)).trans hw438_2), ((HB.out.cell (bl w _ hw440_0)).trans hw440_0), ((HB.out.cell (bl w _ hw440_1)).trans hw440_1), ((HB.out.cell (bl w _ hw440_2)).trans hw440_2), ((HB.out.cell (bl w _ hw441_0)).trans hw441_0), ((HB.out.cell (bl w _ hw441_1)).trans hw441_1), ((HB.out.cell (bl w _ hw453_0)).trans hw453_0), ((HB.out.cell (bl w _ hw453_1)).trans hw453_1), ((HB.out.cell (bl w _ hw453_2)).trans hw453_2)⟩ (fun hHeld => ?_)
         clear hK K
         refine nm_ 45 ?_
         refine one_ (i := 32) (N := some 51) (bv 36 8589934591) rfl rfl (one_of HT_.out (by kernel_rfl)) (by decide) (fun K hK => ?_)
         refine Kd.R_lit_step (Kd.int .i64) _ 3 ?hg (N := 51) ?hd (xs := ([(rd_T46 l1 x9_1).f0] : List Int)) (inner := [.int .i64 ((rd_T46 l1 x9_1).f0)]) (ok := fun _ => True) (okp := fun _ => True) ?hr ?hp (fun _ hk => hk) trivial (Below.refl _ _) (Nat.le_refl _) (by simp) ?_; (case hd => rfl); (case hg => rfl); (case hr => first | (go_simp; done) | (go_simp; rfl)); (case hp => exact (Reps.one (show Kd.M (Kd.int .i64) _ _ _ ((rd_T46 l1 x9_1).f0) [.int .i64 ((rd_T46 l1 x9_1).f0)] from rfl) (Reps.none _ _)))
         intro v455 w38 ho39 hb hg_ hnew_
         clear hg_ hnew_
         (first | rw [← Ny454.out] at ho39 | (simp only [Int.reduceToNat] at ho39; rw [← Ny454.out] at ho39))
         have n0_ := Aside0.mk (Kd.R_elder' (by (with_reducible repeat (first | apply rA | apply rN | apply rD)); exact HO452.out) (Kd.R_base ho39) hb)
         have n1_ := Aside0.mk (Kd.R_lower (Kd.R_new' ho39 (Kd.R_lt (by (with_reducible repeat (first | apply rA | apply rN | apply rD)); exact HO452.out))) (below_size (by repeat (first | (with_reducible first | exact HB.out | apply bA | apply bN | apply bD) | exact HB.out))))
         have n2_ := Aside0.mk (below_step (by repeat (first | (with_reducible first | exact HB.out | apply bA | apply bN | apply bD) | exact HB.out)) hb)
         clear HO452
         clear HB
         have HO452 := n0_
         have HO456 := n1_
         have HB := n2_
         clear n0_ n1_ n2_
         clear hb ho39
         refine hK.out _ _ ⟨((HB.out.cell (bl w _ hw438_0)).trans hw438_0), ((HB.out.cell (bl w _ hw438_1)).trans hw438_1), ((HB.out.cell (bl w _ hw438_2)).trans hw438_2), ((HB.out.cell (bl w _ hw440_0)).trans hw440_0), ((HB.out.cell (bl w _ hw440_1)).trans hw440_1), ((HB.out.cell (bl w _ hw440_2)).trans hw440_2), ((HB.out.cell (bl w _ hw441_0)).trans hw441_0), ((HB.out.cell (bl w _ hw441_1)).trans hw441_1), ((HB.out.cell (bl w _ hw453_0)).trans hw453_0), ((HB.out.cell (bl w _ hw453_1)).trans hw453_1), ((HB.out.cell (bl w _ hw453_2)).trans hw453_2)⟩ (fun hHeld => ?_)
         clear hK K
         refine nm_ 51 ?_
         exact norm_ (by simp only [putAll, Act.put, Z1, Z2, Z3]) (hCont (v448, v451, v455) _ ⟨hHeld, (by (with_reducible repeat (first | apply rA | apply rN | apply rD)); exact Kd.R_mono HO452.out (fun _ hk => hk.2)), (by (with_reducible repeat (first | apply rA | apply rN | apply rD)); exact Kd.R_mono HO456.out (fun _ hk => hk.2)), (by repeat (first | (with_reducible first | exact HB.out | apply bA | apply bN | apply bD) | exact HB.out))⟩)
        ·
         skip
         refine Kd.R_lit_step (Kd.int .i64) _ 3 ?hg (N := 51) ?hd (xs := ([(rd_T46 l1 x9_1).f0] : List Int)) (inner := [.int .i64 ((rd_T46 l1 x9_1).f0)]) (ok := fun _ => True) (okp := fun _ => True) ?hr ?hp (fun _ hk => hk) trivial (Below.refl _ _) (Nat.le_refl _) (by simp) ?_; (case hd => rfl); (case hg => rfl); (case hr => first | (go_simp; done) | (go_simp; rfl)); (case hp => exact (Reps.one (show Kd.M (Kd.int .i64) _ _ _ ((rd_T46 l1 x9_1).f0) [.int .i64 ((rd_T46 l1 x9_1).f0)] from rfl) (Reps.none _ _)))
         intro v455 w37 ho38 hb hg_ hnew_
         clear hg_ hnew_
         (first | rw [← Ny454.out] at ho38 | (simp only [Int.reduceToNat] at ho38; rw [← Ny454.out] at ho38))
         have n0_ := Aside0.mk (Kd.R_elder' (by (with_reducible repeat (first | apply rA | apply rN | apply rD)); exact HO449.out) (Kd.R_base ho38) hb)
         have n1_ := Aside0.mk (Kd.R_lower (Kd.R_new' ho38 (Kd.R_lt (by (with_reducible repeat (first | apply rA | apply rN | apply rD)); exact HO449.out))) (below_size (by repeat (first | (with_reducible first | exact HB.out | apply bA | apply bN | apply bD) | exact HB.out))))
         have n2_ := Aside0.mk (below_step (by repeat (first | (with_reducible first | exact HB.out | apply bA | apply bN | apply bD) | exact HB.out)) hb)
         clear HO449
         clear HB
         have HO449 := n0_
         have HO456 := n1_
         have HB := n2_
         clear n0_ n1_ n2_
         clear hb ho38
         refine hK.out _ _ ⟨((HB.out.cell (bl w _ hw438_0)).trans hw438_0), ((HB.out.cell (bl w _ hw438_1)).trans hw438_1), ((HB.out.cell (bl w _ hw438_2)).trans hw438_2), ((HB.out.cell (bl w _ hw440_0)).trans hw440_0), ((HB.out.cell (bl w _ hw440_1)).trans hw440_1), ((HB.out.cell (bl w _ hw440_2)).trans hw440_2), ((HB.out.cell (bl w _ hw441_0)).trans hw441_0), ((HB.out.cell (bl w _ hw441_1)).trans hw441_1), ((HB.out.cell (bl w _ hw453_0)).trans hw453_0), ((HB.out.cell (bl w _ hw453_1)).trans hw453_1), ((HB.out.cell (bl w _ hw453_2)).trans hw453_2)⟩ (fun hHeld => ?_)
         clear hK K
         refine nm_ 51 ?_
         refine one_ (i := 26) (N := some 45) (bv 36 8589934591) rfl rfl (one_of HT_.out (by kernel_rfl)) (by decide) (fun K hK => ?_)
         refine Kd.R_append_rows_step (Kd.int .i64) (w0 := w) w.heap.size (by rfl) (.tmp 43) (.tmp 44) 29 3 (.int .i64 0) 8 rfl Try.underlying29 info3 rfl (by decide) (by omega) v448 y447 l3 _ _ _ (fun k_ => some k_ ≠ (v455 : Value).ownBlock) (fun _ => False) rfl rfl ?aO ?aR (fun _ _ h => h) (fun _ h => h.elim) ?aF ?aB ?aS ?aL ?_
         (case aR => repeat (first | exact (Kd.C_below HR3.out HB.out) | (with_reducible first | refine cA ?_ _ | refine cN ?_ _ | refine cD ?_)))
         (case aB => exact (by repeat (first | (with_reducible first | exact HB.out | apply bA | apply bN | apply bD) | exact HB.out)))
         (case aF => exact (fun k_ hk => Kd.fresh' (Kd.R_lt (by (with_reducible repeat (first | apply rA | apply rN | apply rD)); exact HO456.out)) k_ hk))
         (case aO => exact (by (with_reducible repeat (first | apply rA | apply rN | apply rD)); exact Kd.R_mono HO449.out (fun _ hk => hk.2)))
         (case aS => exact (below_size (by repeat (first | (with_reducible first | exact HB.out | apply bA | apply bN | apply bD) | exact HB.out))))
         (case aL => have := LMc15.out; omega)
         intro v451 w39 ho hb hg hat
         rw [← Ny450.out] at ho
         replace HO456 := Aside0.mk (Kd.R_after (ok := (fun _ => True)) (by (with_reducible repeat (first | apply rA | apply rN | apply rD)); exact HO456.out) hg hat)
         replace HB := Aside0.mk (hb)
         replace HO452 := Aside0.mk (ho)
         clear HO449
         clear ho hb hg hat
         refine hK.out _ _ ⟨((HB.out.cell (bl w _ hw438_0)).trans hw438_0), ((HB.out.cell (bl w _ hw438_1)).trans hw438_1), ((HB.out.cell (bl w _ hw438_2)).trans hw438_2), ((HB.out.cell (bl w _ hw440_0)).trans hw440_0), ((HB.out.cell (bl w _ hw440_1)).trans hw440_1), ((HB.out.cell (bl w _ hw440_2)).trans hw440_2), ((HB.out.cell (bl w _ hw441_0)).trans hw441_0), ((HB.out.cell (bl w _ hw441_1)).trans hw441_1), ((HB.out.cell (bl w _ hw453_0)).trans hw453_0), ((HB.out.cell (bl w _ hw453_1)).trans hw453_1), ((HB.out.cell (bl w _ hw453_2)).trans hw453_2)⟩ (fun hHeld => ?_)
         clear hK K
         refine nm_ 45 ?_
         exact norm_ (by simp only [putAll, Act.put, Z1, Z2, Z3]) (hCont (v448, v451, v455) _ ⟨hHeld, (by (with_reducible repeat (first | apply rA | apply rN | apply rD)); exact HO452.out), (by (with_reducible repeat (first | apply rA | apply rN | apply rD)); exact Kd.R_mono HO456.out (fun _ hk => hk.2)), (by repeat (first | (with_reducible first | exact HB.out | apply bA | apply bN | apply bD) | exact HB.out))⟩)
       ·
        skip
        refine Kd.R_lit_step (Kd.int .i64) _ 3 ?hg (N := 51) ?hd (xs := ([(rd_T46 l1 x9_1).f0] : List Int)) (inner := [.int .i64 ((rd_T46 l1 x9_1).f0)]) (ok := fun _ => True) (okp := fun _ => True) ?hr ?hp (fun _ hk => hk) trivial (Below.refl _ _) (Nat.le_refl _) (by simp) ?_; (case hd => rfl); (case hg => rfl); (case hr => first | (go_simp; done) | (go_simp; rfl)); (case hp => exact (Reps.one (show Kd.M (Kd.int .i64) _ _ _ ((rd_T46 l1 x9_1).f0) [.int .i64 ((rd_T46 l1 x9_1).f0)] from rfl) (Reps.none _ _)))
        intro v455 w35 ho36 hb hg_ hnew_
        clear hg_ hnew_
        (first | rw [← Ny454.out] at ho36 | (simp only [Int.reduceToNat] at ho36; rw [← Ny454.out] at ho36))
        replace HO456 := Aside0.mk (Kd.R_lower ho36 (below_size (by repeat (first | (with_reducible first | exact HB.out | apply bA | apply bN | apply bD) | exact HB.out))))
        replace HB := Aside0.mk (below_step (by repeat (first | (with_reducible first | exact HB.out | apply bA | apply bN | apply bD) | exact HB.out)) hb)
        clear hb ho36
        refine hK.out _ _ ⟨((HB.out.cell (bl w _ hw438_0)).trans hw438_0), ((HB.out.cell (bl w _ hw438_1)).trans hw438_1), ((HB.out.cell (bl w _ hw438_2)).trans hw438_2), ((HB.out.cell (bl w _ hw440_0)).trans hw440_0), ((HB.out.cell (bl w _ hw440_1)).trans hw440_1), ((HB.out.cell (bl w _ hw440_2)).trans hw440_2), ((HB.out.cell (bl w _ hw441_0)).trans hw441_0), ((HB.out.cell (bl w _ hw441_1)).trans hw441_1), ((HB.out.cell (bl w _ hw453_0)).trans hw453_0), ((HB.out.cell (bl w _ hw453_1)).trans hw453_1), ((HB.out.cell (bl w _ hw453_2)).trans hw453_2)⟩ (fun hHeld => ?_)
        clear hK K
        refine nm_ 51 ?_
        refine one_ (i := 24) (N := some 43) (bv 36 8522825727) rfl rfl (one_of HT_.out (by kernel_rfl)) (by decide) (fun K hK => ?_)
        refine Kd.R_lit_step (Kd.int .i64) _ 3 ?hg (N := 43) ?hd (xs := ([] : List Int)) (inner := []) (ok := fun _ => True) (okp := fun _ => True) ?hr ?hp (fun _ hk => hk) trivial (Below.refl _ _) (Nat.le_refl _) (by simp) ?_; (case hd => rfl); (case hg => rfl); (case hr => first | (go_simp; done) | (go_simp; rfl)); (case hp => exact (Reps.none _ _))
        intro v448 w37 ho38 hb hg_ hnew_
        clear hg_ hnew_
        (first | rw [← Ny447.out] at ho38 | (simp only [Int.reduceToNat] at ho38; rw [← Ny447.out] at ho38))
        have n0_ := Aside0.mk (Kd.R_elder' (by (with_reducible repeat (first | apply rA | apply rN | apply rD)); exact HO456.out) (Kd.R_base ho38) hb)
        have n1_ := Aside0.mk (Kd.R_lower (Kd.R_new' ho38 (Kd.R_lt (by (with_reducible repeat (first | apply rA | apply rN | apply rD)); exact HO456.out))) (below_size (by repeat (first | (with_reducible first | exact HB.out | apply bA | apply bN | apply bD) | exact HB.out))))
        have n2_ := Aside0.mk (below_step (by repeat (first | (with_reducible first | exact HB.out | apply bA | apply bN | apply bD) | exact HB.out)) hb)
        clear HO456
        clear HB
        have HO456 := n0_
        have HO449 := n1_
        have HB := n2_
        clear n0_ n1_ n2_
        clear hb ho38
        refine hK.out _ _ ⟨((HB.out.cell (bl w _ hw438_0)).trans hw438_0), ((HB.out.cell (bl w _ hw438_1)).trans hw438_1), ((HB.out.cell (bl w _ hw438_2)).trans hw438_2), ((HB.out.cell (bl w _ hw440_0)).trans hw440_0), ((HB.out.cell (bl w _ hw440_1)).trans hw440_1), ((HB.out.cell (bl w _ hw440_2)).trans hw440_2), ((HB.out.cell (bl w _ hw441_0)).trans hw441_0), ((HB.out.cell (bl w _ hw441_1)).trans hw441_1), ((HB.out.cell (bl w _ hw453_0)).trans hw453_0), ((HB.out.cell (bl w _ hw453_1)).trans hw453_1), ((HB.out.cell (bl w _ hw453_2)).trans hw453_2)⟩ (fun hHeld => ?_)
        clear hK K
        refine nm_ 43 ?_
        refine one_ (i := 26) (N := some 45) (bv 36 8589934591) rfl rfl (one_of HT_.out (by kernel_rfl)) (by decide) (fun K hK => ?_)
        refine Kd.R_append_rows_step (Kd.int .i64) (w0 := w) w.heap.size (by rfl) (.tmp 43) (.tmp 44) 29 3 (.int .i64 0) 8 rfl Try.underlying29 info3 rfl (by decide) (by omega) v448 y447 l3 _ _ _ (fun k_ => some k_ ≠ (v455 : Value).ownBlock) (fun _ => False) rfl rfl ?aO ?aR (fun _ _ h => h) (fun _ h => h.elim) ?aF ?aB ?aS ?aL ?_
        (case aR => repeat (first | exact (Kd.C_below HR3.out HB.out) | (with_reducible first | refine cA ?_ _ | refine cN ?_ _ | refine cD ?_)))
        (case aB => exact (by repeat (first | (with_reducible first | exact HB.out | apply bA | apply bN | apply bD) | exact HB.out)))
        (case aF => exact (fun k_ hk => Kd.fresh' (Kd.R_lt (by (with_reducible repeat (first | apply rA | apply rN | apply rD)); exact HO456.out)) k_ hk))
        (case aO => exact (by (with_reducible repeat (first | apply rA | apply rN | apply rD)); exact Kd.R_mono HO449.out (fun _ hk => hk.2)))
        (case aS => exact (below_size (by repeat (first | (with_reducible first | exact HB.out | apply bA | apply bN | apply bD) | exact HB.out))))
        (case aL => have := LMc15.out; omega)
        intro v451 w39 ho hb hg hat
        rw [← Ny450.out] at ho
        replace HO456 := Aside0.mk (Kd.R_after (ok := (fun _ => True)) (by (with_reducible repeat (first | apply rA | apply rN | apply rD)); exact HO456.out) hg hat)
        replace HB := Aside0.mk (hb)
        replace HO452 := Aside0.mk (ho)
        clear HO449
        clear ho hb hg hat
        refine hK.out _ _ ⟨((HB.out.cell (bl w _ hw438_0)).trans hw438_0), ((HB.out.cell (bl w _ hw438_1)).trans hw438_1), ((HB.out.cell (bl w _ hw438_2)).trans hw438_2), ((HB.out.cell (bl w _ hw440_0)).trans hw440_0), ((HB.out.cell (bl w _ hw440_1)).trans hw440_1), ((HB.out.cell (bl w _ hw440_2)).trans hw440_2), ((HB.out.cell (bl w _ hw441_0)).trans hw441_0), ((HB.out.cell (bl w _ hw441_1)).trans hw441_1), ((HB.out.cell (bl w _ hw453_0)).trans hw453_0), ((HB.out.cell (bl w _ hw453_1)).trans hw453_1), ((HB.out.cell (bl w _ hw453_2)).trans hw453_2)⟩ (fun hHeld => ?_)
        clear hK K
        refine nm_ 45 ?_
        exact norm_ (by simp only [putAll, Act.put, Z1, Z2, Z3]) (hCont (v448, v451, v455) _ ⟨hHeld, (by (with_reducible repeat (first | apply rA | apply rN | apply rD)); exact HO452.out), (by (with_reducible repeat (first | apply rA | apply rN | apply rD)); exact Kd.R_mono HO456.out (fun _ hk => hk.2)), (by repeat (first | (with_reducible first | exact HB.out | apply bA | apply bN | apply bD) | exact HB.out))⟩)
      rintro ⟨v448, v451, v455⟩ w40 ⟨hS_, h0_, h1_, h2_⟩
      have n0_ : Aside0 (Kd.R (Kd.int .i64) 3 w40 w.heap.size (fun k_ => some k_ ≠ (v455 : Value).ownBlock) v451 y450) := ⟨h0_⟩
      have n1_ : Aside0 (Kd.R (Kd.int .i64) 3 w40 w.heap.size (fun k_ => some k_ ≠ (v451 : Value).ownBlock) v455 y454) := ⟨h1_⟩
      have n2_ : Aside0 (Below w.heap.size w w40) := ⟨h2_⟩
      clear HB
      clear h0_ h1_ h2_
      have HO452 := n0_
      have HO456 := n1_
      have HB := n2_
      clear n0_ n1_ n2_
      have hHeld : w40.cell? (ad438.add ((x9_1).toNat * 3)) = some (.int .i64 ((rd_T46 l1 x9_1).f0)) ∧ w40.cell? ⟨(ad438.add ((x9_1).toNat * 3)).block, (ad438.add ((x9_1).toNat * 3)).off + 1, none⟩ = some (.int .i64 ((rd_T46 l1 x9_1).f1)) ∧ w40.cell? ⟨(ad438.add ((x9_1).toNat * 3)).block, (ad438.add ((x9_1).toNat * 3)).off + 2, none⟩ = some (.slice A438_2 ((rd_T46 l1 x9_1).f2).length c438_2) ∧ w40.cell? (ad438.add ((x9_1).toNat * 3)) = some (.int .i64 ((rd_T46 l1 x9_1).f0)) ∧ w40.cell? ⟨(ad438.add ((x9_1).toNat * 3)).block, (ad438.add ((x9_1).toNat * 3)).off + 1, none⟩ = some (.int .i64 ((rd_T46 l1 x9_1).f1)) ∧ w40.cell? ⟨(ad438.add ((x9_1).toNat * 3)).block, (ad438.add ((x9_1).toNat * 3)).off + 2, none⟩ = some (.slice A438_2 ((rd_T46 l1 x9_1).f2).length c438_2) ∧ w40.cell? ad441 = some (.int .i64 ((rd_T48 l2 0).f0)) ∧ w40.cell? ⟨ad441.block, ad441.off + 1, none⟩ = some (.int .i64 ((rd_T48 l2 0).f1)) ∧ w40.cell? (ad438.add ((x9_1).toNat * 3)) = some (.int .i64 ((rd_T46 l1 x9_1).f0)) ∧ w40.cell? ⟨(ad438.add ((x9_1).toNat * 3)).block, (ad438.add ((x9_1).toNat * 3)).off + 1, none⟩ = some (.int .i64 ((rd_T46 l1 x9_1).f1)) ∧ w40.cell? ⟨(ad438.add ((x9_1).toNat * 3)).block, (ad438.add ((x9_1).toNat * 3)).off + 2, none⟩ = some (.slice A453_2 ((rd_T46 l1 x9_1).f2).length c453_2) := hS_
      obtain ⟨Ao42, co42, eo42⟩ := Kd.R_slice HO456.out
      (first | subst eo42 | (injection eo42 with f1_ f2_ f3_; have f4_ := f1_.symm; have f5_ := f3_.symm; clear f1_ f2_ f3_; subst f4_; subst f5_))
      refine norm_ (a' := ?_) ?_ ?_
      rotate_left
      ·
       simp only [putAll, Act.put, Z1, Z2, Z3]
       rfl
      refine one_ (i := 33) (N := some 52) (bv 36 17179869183) rfl rfl (one_of HT_.out (by kernel_rfl)) (by decide) (fun K hK => ?_)
      refine Kd.R_append_rows_step (Kd.int .i64) (w0 := w) w.heap.size (by rfl) (.tmp 45) (.tmp 51) 29 3 (.int .i64 0) 8 rfl Try.underlying29 info3 rfl (by decide) (by omega) v451 y450 y454 _ _ _ (fun k_ => some k_ ≠ (.slice Ao42 y454.length co42 : Value).ownBlock) (fun _ => False) rfl rfl ?aO ?aR (fun _ _ h => h) (fun _ h => h.elim) ?aF ?aB ?aS ?aL ?_
      (case aR => repeat (first | exact (Kd.R_reads' HO456.out).2.2 | (with_reducible first | refine cA ?_ _ | refine cN ?_ _ | refine cD ?_)))
      (case aB => exact (by repeat (first | (with_reducible first | exact HB.out | apply bA | apply bN | apply bD) | exact HB.out)))
      (case aF => exact (fun k_ hk => Kd.fresh' (Kd.R_lt (by (with_reducible repeat (first | apply rA | apply rN | apply rD)); exact HO456.out)) k_ hk))
      (case aO => exact (by (with_reducible repeat (first | apply rA | apply rN | apply rD)); exact HO452.out))
      (case aS => exact (below_size (by repeat (first | (with_reducible first | exact HB.out | apply bA | apply bN | apply bD) | exact HB.out))))
      (case aL => have := LMc16.out; omega)
      intro v458 w41 ho hb hg hat
      rw [← Ny457.out] at ho
      replace HO456 := Aside0.mk (Kd.R_after (ok := (fun _ => True)) (by (with_reducible repeat (first | apply rA | apply rN | apply rD)); exact Kd.R_mono HO456.out (fun _ hk => ⟨trivial, hk⟩)) hg hat)
      replace HB := Aside0.mk (hb)
      replace HO459 := Aside0.mk (ho)
      clear HO452
      clear ho hb hg hat
      obtain ⟨Ao43, co43, eo43⟩ := Kd.R_slice HO459.out
      (first | subst eo43 | (injection eo43 with f1_ f2_ f3_; have f4_ := f1_.symm; have f5_ := f3_.symm; clear f1_ f2_ f3_; subst f4_; subst f5_))
      refine hK.out _ _ ⟨((HB.out.cell (bl w _ hw438_0)).trans hw438_0), ((HB.out.cell (bl w _ hw438_1)).trans hw438_1), ((HB.out.cell (bl w _ hw438_2)).trans hw438_2), ((HB.out.cell (bl w _ hw440_0)).trans hw440_0), ((HB.out.cell (bl w _ hw440_1)).trans hw440_1), ((HB.out.cell (bl w _ hw440_2)).trans hw440_2), ((HB.out.cell (bl w _ hw441_0)).trans hw441_0), ((HB.out.cell (bl w _ hw441_1)).trans hw441_1), ((HB.out.cell (bl w _ hw453_0)).trans hw453_0), ((HB.out.cell (bl w _ hw453_1)).trans hw453_1), ((HB.out.cell (bl w _ hw453_2)).trans hw453_2)⟩ (fun hHeld => ?_)
      clear hK K
      refine nm_ 52 ?_
      refine one_ (i := 34) (N := some 53) (bv 36 34359738367) rfl rfl (one_of HT_.out (by kernel_rfl)) (by decide) (fun K hK => ?_)
      refine goes_ Try.func43 (by kernel_rfl) rfl #[.slice A0 l0.length c0, .slice (some ad438) l1.length c1, .slice A34 y443.length c34, .slice Ao43 y457.length co43] (by rfl) rfl rfl (by (try simp only [Y1, Y2, Y3]); first | done | rfl | (simp only [Y4, Y5]; rfl)) ?_
      with_reducible refine (ih k1 (by have := HK1.out; omega) _ _ l0 _ _ l1 _ _ y443 _ _ y457 false _ ?side1 ?side2 ?side3 ?side4 ?side5 ?side6 ?side7 ?side8 A17.out).mono ?_
      (case side1 => repeat (first | exact (Kd.C_below HR0.out HB.out) | (with_reducible first | refine cA ?_ _ | refine cN ?_ _ | refine cD ?_)))
      (case side2 => exact HC0.out)
      (case side3 => repeat (first | exact (Kd.C_below HR1.out HB.out) | (with_reducible first | refine cA ?_ _ | refine cN ?_ _ | refine cD ?_)))
      (case side4 => exact HC1.out)
      (case side5 => repeat (first | exact (Kd.C_below HR446.out HB.out) | (with_reducible first | refine cA ?_ _ | refine cN ?_ _ | refine cD ?_)))
      (case side6 => exact HC446.out)
      (case side7 => repeat (first | exact (Kd.R_reads' HO459.out).2.2 | (with_reducible first | refine cA ?_ _ | refine cN ?_ _ | refine cD ?_)))
      (case side8 => exact (Kd.R_reads' HO459.out).2.1)
      rintro e w44 ⟨rfl, hb⟩
      refine ⟨_, rfl, ?_⟩
      replace HO456 := Aside0.mk (Kd.R_below (by (with_reducible repeat (first | apply rA | apply rN | apply rD)); exact HO456.out) hb)
      replace HO459 := Aside0.mk (Kd.R_below (by (with_reducible repeat (first | apply rA | apply rN | apply rD)); exact HO459.out) hb)
      replace HB := Aside0.mk (below_step (by repeat (first | (with_reducible first | exact HB.out | apply bA | apply bN | apply bD) | exact HB.out)) hb)
      (try clear hb)
      (try clear hb2)
      (try clear hk)
      (try clear hi)
      refine hK.out _ _ ⟨((HB.out.cell (bl w _ hw438_0)).trans hw438_0), ((HB.out.cell (bl w _ hw438_1)).trans hw438_1), ((HB.out.cell (bl w _ hw438_2)).trans hw438_2), ((HB.out.cell (bl w _ hw440_0)).trans hw440_0), ((HB.out.cell (bl w _ hw440_1)).trans hw440_1), ((HB.out.cell (bl w _ hw440_2)).trans hw440_2), ((HB.out.cell (bl w _ hw441_0)).trans hw441_0), ((HB.out.cell (bl w _ hw441_1)).trans hw441_1), ((HB.out.cell (bl w _ hw453_0)).trans hw453_0), ((HB.out.cell (bl w _ hw453_1)).trans hw453_1), ((HB.out.cell (bl w _ hw453_2)).trans hw453_2)⟩ (fun hHeld => ?_)
      clear hK K
      refine nm_ 53 ?_
      refine pv_ 36 35 54 68719476735 rfl rfl HT_ ?_
      refine done_ (done_of HT_.out (by kernel_rfl)) ?_
      try go_wp2
      go_roundg k1
      case measure => have := HK1.out; omega
      case rel => exact ⟨(wrap64 (x9_1 + 1)), (by first | rfl | (simp; done) | (simp [*]; done)), H', ⟨by have := HK1.out; omega⟩, ⟨by repeat (first | (with_reducible first | exact HB.out | apply bA | apply bN | apply bD) | exact HB.out)⟩⟩
     subst c18
     have H1 : (some true) = some r := by rw [if_pos rfl] at H; exact H
     clear H
     have H := H1
     clear H1
     obtain rfl := Option.some.inj H
     try go_wp2
     replace HB := Aside0.mk (below_drew1 HB.out)
     have p438 : 0 ≤ (x9_1 : Int) := od (by assumption)
     have q438 : x9_1 < (l1.length : Int) := od (by assumption)
     obtain ⟨ad438, A438_2, c438_2, e438, hx438_0, hx438_1, hx438_2, hl438_2, hi438_2⟩ := at_T46 HR1.out x9_1 p438 q438
     have hw438_2 := hx438_2
     have hw438_1 := hx438_1
     have hw438_0 := hx438_0
     cases e438
     replace hx438_0 := (HB.out.cell (bl w _ hx438_0)).trans hx438_0
     replace hx438_1 := (HB.out.cell (bl w _ hx438_1)).trans hx438_1
     replace hx438_2 := (HB.out.cell (bl w _ hx438_2)).trans hx438_2
     have HR438_2 := Aside0.mk hi438_2
     have HC438_2 := Aside0.mk hl438_2
     clear hi438_2 hl438_2
     replace p438 := eq_true p438
     replace q438 := eq_true q438
     have p440 : 0 ≤ (x9_1 : Int) := od (by assumption)
     have q440 : x9_1 < (l1.length : Int) := od (by assumption)
     obtain ⟨ad440, A440_2, c440_2, e440, hx440_0, hx440_1, hx440_2, hl440_2, hi440_2⟩ := at_T46 HR1.out x9_1 p440 q440
     have hw440_2 := hx440_2
     have hw440_1 := hx440_1
     have hw440_0 := hx440_0
     obtain rfl : ad438 = ad440 := (by injection e440)
     replace hx440_0 := (HB.out.cell (bl w _ hx440_0)).trans hx440_0
     replace hx440_1 := (HB.out.cell (bl w _ hx440_1)).trans hx440_1
     replace hx440_2 := (HB.out.cell (bl w _ hx440_2)).trans hx440_2
     have HR440_2 := Aside0.mk hi440_2
     have HC440_2 := Aside0.mk hl440_2
     clear hi440_2 hl440_2
     replace p440 := eq_true p440
     replace q440 := eq_true q440
     have ea_ := Option.some.inj (hx438_2.symm.trans hx440_2)
     injection ea_ with ea_ en_ ec_
     subst ea_
     subst ec_
     clear en_
     have p441 : 0 ≤ (0 : Int) := (by omega)
     have q441 : 0 < (l2.length : Int) := od (by assumption)
     obtain ⟨ad441, e441, hx441_0, hx441_1⟩ := at_T48 HR2.out 0 p441 q441
     have hw441_1 := hx441_1
     (try rw [show ((0 : Int)).toNat = 0 from rfl] at hw441_1)
     (try rw [show 0 * 2 = 0 from rfl] at hw441_1)
     (try rw [Addr.add_zero'] at hw441_1)
     have hw441_0 := hx441_0
     (try rw [show ((0 : Int)).toNat = 0 from rfl] at hw441_0)
     (try rw [show 0 * 2 = 0 from rfl] at hw441_0)
     (try rw [Addr.add_zero'] at hw441_0)
     cases e441
     have qi441 : (0 < l2.length) = True := eq_true (by omega)
     (try rw [show ((0 : Int)).toNat = 0 from rfl] at hx441_0)
     (try rw [show 0 * 2 = 0 from rfl] at hx441_0)
     (try rw [Addr.add_zero'] at hx441_0)
     (try rw [show ((0 : Int)).toNat = 0 from rfl] at hx441_1)
     (try rw [show 0 * 2 = 0 from rfl] at hx441_1)
     (try rw [Addr.add_zero'] at hx441_1)
     replace hx441_0 := (HB.out.cell (bl w _ hx441_0)).trans hx441_0
     replace hx441_1 := (HB.out.cell (bl w _ hx441_1)).trans hx441_1
     replace p441 := eq_true p441
     replace q441 := eq_true q441
     have p453 : 0 ≤ (x9_1 : Int) := od (by assumption)
     have q453 : x9_1 < (l1.length : Int) := od (by assumption)
     obtain ⟨ad453, A453_2, c453_2, e453, hx453_0, hx453_1, hx453_2, hl453_2, hi453_2⟩ := at_T46 HR1.out x9_1 p453 q453
     have hw453_2 := hx453_2
     have hw453_1 := hx453_1
     have hw453_0 := hx453_0
     obtain rfl : ad438 = ad453 := (by injection e453)
     replace hx453_0 := (HB.out.cell (bl w _ hx453_0)).trans hx453_0
     replace hx453_1 := (HB.out.cell (bl w _ hx453_1)).trans hx453_1
     replace hx453_2 := (HB.out.cell (bl w _ hx453_2)).trans hx453_2
     have HR453_2 := Aside0.mk hi453_2
     have HC453_2 := Aside0.mk hl453_2
     clear hi453_2 hl453_2
     replace p453 := eq_true p453
     replace q453 := eq_true q453
     refine start_ (n := 36) (S := fun w' => w'.cell? (ad438.add ((x9_1).toNat * 3)) = some (.int .i64 ((rd_T46 l1 x9_1).f0)) ∧ w'.cell? ⟨(ad438.add ((x9_1).toNat * 3)).block, (ad438.add ((x9_1).toNat * 3)).off + 1, none⟩ = some (.int .i64 ((rd_T46 l1 x9_1).f1)) ∧ w'.cell? ⟨(ad438.add ((x9_1).toNat * 3)).block, (ad438.add ((x9_1).toNat * 3)).off + 2, none⟩ = some (.slice A438_2 ((rd_T46 l1 x9_1).f2).length c438_2) ∧ w'.cell? (ad438.add ((x9_1).toNat * 3)) = some (.int .i64 ((rd_T46 l1 x9_1).f0)) ∧ w'.cell? ⟨(ad438.add ((x9_1).toNat * 3)).block, (ad438.add ((x9_1).toNat * 3)).off + 1, none⟩ = some (.int .i64 ((rd_T46 l1 x9_1).f1)) ∧ w'.cell? ⟨(ad438.add ((x9_1).toNat * 3)).block, (ad438.add ((x9_1).toNat * 3)).off + 2, none⟩ = some (.slice A438_2 ((rd_T46 l1 x9_1).f2).length c438_2) ∧ w'.cell? ad441 = some (.int .i64 ((rd_T48 l2 0).f0)) ∧ w'.cell? ⟨ad441.block, ad441.off + 1, none⟩ = some (.int .i64 ((rd_T48 l2 0).f1)) ∧ w'.cell? (ad438.add ((x9_1).toNat * 3)) = some (.int .i64 ((rd_T46 l1 x9_1).f0)) ∧ w'.cell? ⟨(ad438.add ((x9_1).toNat * 3)).block, (ad438.add ((x9_1).toNat * 3)).off + 1, none⟩ = some (.int .i64 ((rd_T46 l1 x9_1).f1)) ∧ w'.cell? ⟨(ad438.add ((x9_1).toNat * 3)).block, (ad438.add ((x9_1).toNat * 3)).off + 2, none⟩ = some (.slice A453_2 ((rd_T46 l1 x9_1).f2).length c453_2)) (ds := []) (bv 36 0) (by kernel_rfl) rfl rfl ⟨((HB.out.cell (bl w _ hw438_0)).trans hw438_0), ((HB.out.cell (bl w _ hw438_1)).trans hw438_1), ((HB.out.cell (bl w _ hw438_2)).trans hw438_2), ((HB.out.cell (bl w _ hw440_0)).trans hw440_0), ((HB.out.cell (bl w _ hw440_1)).trans hw440_1), ((HB.out.cell (bl w _ hw440_2)).trans hw440_2), ((HB.out.cell (bl w _ hw441_0)).trans hw441_0), ((HB.out.cell (bl w _ hw441_1)).trans hw441_1), ((HB.out.cell (bl w _ hw453_0)).trans hw453_0), ((HB.out.cell (bl w _ hw453_1)).trans hw453_1), ((HB.out.cell (bl w _ hw453_2)).trans hw453_2)⟩ (fun hHeld => ?_); refine with_tabW laws_seating.tab6 laws_seating.bits6 (fun HT_ HW_ => ?_)
     generalize wr.drew = w19 at HB HR438_2 HR440_2 HR453_2 hx438_0 hx438_1 hx438_2 hx440_0 hx440_1 hx440_2 hx441_0 hx441_1 hx453_0 hx453_1 hx453_2 hHeld ⊢
     refine pv_ 36 0 19 1 rfl rfl HT_ ?_; refine pv_ 36 1 20 3 rfl rfl HT_ ?_; refine pv_ 36 2 21 7 rfl rfl HT_ ?_; refine pv_ 36 3 22 15 rfl rfl HT_ ?_; refine pv_ 36 4 23 31 rfl rfl HT_ ?_
     refine tv_ 36 5 24 63 rfl rfl HT_ HW_ hHeld (by rintro w' ⟨s0, s1, s2, s3, s4, s5, s6, s7, s8, s9, s10⟩; go_simp; with_reducible rfl) ?_
     refine one_ (i := 6) (N := some 25) (bv 36 127) rfl rfl (one_of HT_.out (by kernel_rfl)) (by decide) (fun K hK => ?_)
     refine goes_ Try.func44 (by kernel_rfl) rfl #[.slice A3 l3.length c3, .int .i64 ((rd_T46 l1 x9_1).f0)] (by rfl) rfl rfl (by (try simp only [Y1, Y2, Y3]); first | done | rfl | (simp only [Y4, Y5]; rfl)) ?_
     with_reducible refine (laws_contains.calls k1 _ _ l3 ((rd_T46 l1 x9_1).f0) false _ ?side1 ?side2 A8.out).mono ?_
     (case side1 => repeat (first | exact (Kd.C_below HR3.out HB.out) | (with_reducible first | refine cA ?_ _ | refine cN ?_ _ | refine cD ?_)))
     (case side2 => exact HC3.out)
     rintro e w' ⟨rfl, ⟨nd, rfl⟩⟩
     refine ⟨_, rfl, ?_⟩
     refine hK.out _ _ ⟨((HB.out.cell (bl w _ hw438_0)).trans hw438_0), ((HB.out.cell (bl w _ hw438_1)).trans hw438_1), ((HB.out.cell (bl w _ hw438_2)).trans hw438_2), ((HB.out.cell (bl w _ hw440_0)).trans hw440_0), ((HB.out.cell (bl w _ hw440_1)).trans hw440_1), ((HB.out.cell (bl w _ hw440_2)).trans hw440_2), ((HB.out.cell (bl w _ hw441_0)).trans hw441_0), ((HB.out.cell (bl w _ hw441_1)).trans hw441_1), ((HB.out.cell (bl w _ hw453_0)).trans hw453_0), ((HB.out.cell (bl w _ hw453_1)).trans hw453_1), ((HB.out.cell (bl w _ hw453_2)).trans hw453_2)⟩ (fun hHeld => ?_)
     clear hK K
     refine nm_ 25 ?_
     refine pv_ 36 7 26 255 rfl rfl HT_ ?_; refine pv_ 36 8 27 511 rfl rfl HT_ ?_; refine pv_ 36 9 28 1023 rfl rfl HT_ ?_; refine pv_ 36 10 29 2047 rfl rfl HT_ ?_; refine pv_ 36 11 30 4095 rfl rfl HT_ ?_; refine pv_ 36 12 31 8191 rfl rfl HT_ ?_; refine pv_ 36 14 33 24575 rfl rfl HT_ ?_; refine pv_ 36 15 34 57343 rfl rfl HT_ ?_
     refine tv_ 36 13 32 65535 rfl rfl HT_ HW_ hHeld (by rintro w' ⟨s0, s1, s2, s3, s4, s5, s6, s7, s8, s9, s10⟩; go_simp; with_reducible rfl) ?_
     refine tv_ 36 16 35 131071 rfl rfl HT_ HW_ hHeld (by rintro w' ⟨s0, s1, s2, s3, s4, s5, s6, s7, s8, s9, s10⟩; go_simp; with_reducible rfl) ?_
     refine one_ (i := 17) (N := some 36) (bv 36 262143) rfl rfl (one_of HT_.out (by kernel_rfl)) (by decide) (fun K hK => ?_)
     refine goes_ Try.func28 (by kernel_rfl) rfl #[.slice A0 l0.length c0, .agg #[.int .i64 ((rd_T46 l1 x9_1).f0), .int .i64 ((rd_T46 l1 x9_1).f1), .slice A438_2 ((rd_T46 l1 x9_1).f2).length c438_2], .agg #[.int .i64 ((rd_T48 l2 0).f0), .int .i64 ((rd_T48 l2 0).f1)]] (by rfl) rfl rfl (by (try simp only [Y1, Y2, Y3]); first | done | rfl | (simp only [Y4, Y5]; rfl)) ?_
     with_reducible refine (impl_MayJudge.calls k1 _ _ l0 ((rd_T46 l1 x9_1).f0) ((rd_T46 l1 x9_1).f1) _ _ ((rd_T46 l1 x9_1).f2) ((rd_T48 l2 0).f0) ((rd_T48 l2 0).f1) true _ ?side1 ?side2 ?side3 ?side4 A12.out).mono ?_
     (case side1 => repeat (first | exact (Kd.C_below HR0.out (by repeat (first | (with_reducible first | exact HB.out | apply bA | apply bN | apply bD) | exact HB.out))) | (with_reducible first | refine cA ?_ _ | refine cN ?_ _ | refine cD ?_)))
     (case side2 => exact HC0.out)
     (case side3 => repeat (first | exact (Kd.C_below HR440_2.out (by repeat (first | (with_reducible first | exact HB.out | apply bA | apply bN | apply bD) | exact HB.out))) | (with_reducible first | refine cA ?_ _ | refine cN ?_ _ | refine cD ?_)))
     (case side4 => exact HC440_2.out)
     rintro e w20 ⟨rfl, hb⟩
     refine ⟨_, rfl, ?_⟩
     replace HB := Aside0.mk (below_step (by repeat (first | (with_reducible first | exact HB.out | apply bA | apply bN | apply bD) | exact HB.out)) hb)
     (try clear hb)
     (try clear hb2)
     (try clear hk)
     (try clear hi)
     have q21 : (1 : Int) ≤ ((l2.length : Int) : Int) := od (by assumption)
     obtain ⟨i021, hi021, _, hsz21, _⟩ := info_parts info48
     have hroom21 : l2.length ≤ c2 := HC2.out
     have hC21 : Kd.C k48 _ (some ad441) l2.length l2 := HR2.out
     have hcut21 := cut_from (P := Try.prog) 56 48 .i64 Try.underlying56 hi021 2 hsz21 (some ad441) l2.length c2 1 (by omega) q21
     have hr21 := Kd.C_drop (m := (1 : Int).toNat) (c := c2) hC21 (by omega) hroom21
     obtain ⟨A21, hA21⟩ : ∃ A_, A_ = (if c2 = (1 : Int).toNat then (some ad441) else ((some ad441) : Option Addr).map (·.add ((1 : Int).toNat * 2))) := ⟨_, rfl⟩
     obtain ⟨c21, hc21⟩ : ∃ c_, c_ = c2 - (1 : Int).toNat := ⟨_, rfl⟩
     have hy21 : y443.length = l2.length - (1 : Int).toNat := (by rw [Ny443.out, List.length_drop] <;> omega)
     rw [show (l2).drop (1 : Int).toNat = y443 from Ny443.out.symm] at hr21
     replace hr21 : Kd.C k48 _ A21 y443.length y443 := (by rw [hA21]; exact hr21)
     rw [← hy21, ← hA21, ← hc21] at hcut21
     have HR446 := Aside0.mk hr21
     have HC446 := Aside0.mk (show y443.length ≤ c21 from by rw [hy21, hc21]; exact Nat.sub_le_sub_right hroom21 _)
     clear hr21 hC21 hroom21 hi021 hsz21 hc21
     have KY21 := Aside0.mk hy21
     have KA21 := Aside0.mk hA21
     clear hy21 hA21
     replace q21 := eq_true q21
     refine hK.out _ _ ⟨((HB.out.cell (bl w _ hw438_0)).trans hw438_0), ((HB.out.cell (bl w _ hw438_1)).trans hw438_1), ((HB.out.cell (bl w _ hw438_2)).trans hw438_2), ((HB.out.cell (bl w _ hw440_0)).trans hw440_0), ((HB.out.cell (bl w _ hw440_1)).trans hw440_1), ((HB.out.cell (bl w _ hw440_2)).trans hw440_2), ((HB.out.cell (bl w _ hw441_0)).trans hw441_0), ((HB.out.cell (bl w _ hw441_1)).trans hw441_1), ((HB.out.cell (bl w _ hw453_0)).trans hw453_0), ((HB.out.cell (bl w _ hw453_1)).trans hw453_1), ((HB.out.cell (bl w _ hw453_2)).trans hw453_2)⟩ (fun hHeld => ?_)
     clear hK K
     refine nm_ 36 ?_
     refine pv_ 36 18 37 524287 rfl rfl HT_ ?_; refine pv_ 36 19 38 1048575 rfl rfl HT_ ?_; refine pv_ 36 20 39 2097151 rfl rfl HT_ ?_; refine pv_ 36 21 40 4194303 rfl rfl HT_ ?_; refine pv_ 36 22 41 8388607 rfl rfl HT_ ?_; refine pv_ 36 23 42 16777215 rfl rfl HT_ ?_; refine pv_ 36 25 44 50331647 rfl rfl HT_ ?_; refine pv_ 36 27 46 184549375 rfl rfl HT_ ?_; refine pv_ 36 28 47 452984831 rfl rfl HT_ ?_; refine pv_ 36 29 48 989855743 rfl rfl HT_ ?_; refine pv_ 36 30 49 2063597567 rfl rfl HT_ ?_
     refine tv_ 36 31 50 4211081215 rfl rfl HT_ HW_ hHeld (by rintro w' ⟨s0, s1, s2, s3, s4, s5, s6, s7, s8, s9, s10⟩; go_simp; with_reducible rfl) ?_
     refine join_ (σ := Value × Value × Value) 3 (bv 36 8589934591) (fun s_ => [(43, s_.1), (45, s_.2.1), (51, s_.2.2)]) (fun s_ w' => (w'.cell? (ad438.add ((x9_1).toNat * 3)) = some (.int .i64 ((rd_T46 l1 x9_1).f0)) ∧ w'.cell? ⟨(ad438.add ((x9_1).toNat * 3)).block, (ad438.add ((x9_1).toNat * 3)).off + 1, none⟩ = some (.int .i64 ((rd_T46 l1 x9_1).f1)) ∧ w'.cell? ⟨(ad438.add ((x9_1).toNat * 3)).block, (ad438.add ((x9_1).toNat * 3)).off + 2, none⟩ = some (.slice A438_2 ((rd_T46 l1 x9_1).f2).length c438_2) ∧ w'.cell? (ad438.add ((x9_1).toNat * 3)) = some (.int .i64 ((rd_T46 l1 x9_1).f0)) ∧ w'.cell? ⟨(ad438.add ((x9_1).toNat * 3)).block, (ad438.add ((x9_1).toNat * 3)).off + 1, none⟩ = some (.int .i64 ((rd_T46 l1 x9_1).f1)) ∧ w'.cell? ⟨(ad438.add ((x9_1).toNat * 3)).block, (ad438.add ((x9_1).toNat * 3)).off + 2, none⟩ = some (.slice A438_2 ((rd_T46 l1 x9_1).f2).length c438_2) ∧ w'.cell? ad441 = some (.int .i64 ((rd_T48 l2 0).f0)) ∧ w'.cell? ⟨ad441.block, ad441.off + 1, none⟩ = some (.int .i64 ((rd_T48 l2 0).f1)) ∧ w'.cell? (ad438.add ((x9_1).toNat * 3)) = some (.int .i64 ((rd_T46 l1 x9_1).f0)) ∧ w'.cell? ⟨(ad438.add ((x9_1).toNat * 3)).block, (ad438.add ((x9_1).toNat * 3)).off + 1, none⟩ = some (.int .i64 ((rd_T46 l1 x9_1).f1)) ∧ w'.cell? ⟨(ad438.add ((x9_1).toNat * 3)).block, (ad438.add ((x9_1).toNat * 3)).off + 2, none⟩ = some (.slice A453_2 ((rd_T46 l1 x9_1).f2).length c453_2)) ∧ (Kd.R (Kd.int .i64) 3 w' w.heap.size (fun k_ => some k_ ≠ (s_.2.2 : Value).ownBlock) s_.2.1 y450) ∧ (Kd.R (Kd.int .i64) 3 w' w.heap.size (fun k_ => some k_ ≠ (s_.2.1 : Value).ownBlock) s_.2.2 y454) ∧ (Below w.heap.size w w')) ?_ ?_
     rotate_left
     ·
      intro hCont
      refine two_ (i := 24) (j := 32) (Ni := some 43) (Nj := some 51) (bv 36 4227858431) (bv 36 8506048511) rfl rfl rfl rfl (two_of HT_.out (by kernel_rfl)) (by decide) (by decide) (fun K hK => ?_) (fun K hK => ?_)
      ·
       skip
       refine Kd.R_lit_step (Kd.int .i64) _ 3 ?hg (N := 43) ?hd (xs := ([] : List Int)) (inner := []) (ok := fun _ => True) (okp := fun _ => True) ?hr ?hp (fun _ hk => hk) trivial (Below.refl _ _) (Nat.le_refl _) (by simp) ?_; (case hd => rfl); (case hg => rfl); (case hr => first | (go_simp; done) | (go_simp; rfl)); (case hp => exact (Reps.none _ _))
       intro v448 w22 ho23 hb hg_ hnew_
       clear hg_ hnew_
       (first | rw [← Ny447.out] at ho23 | (simp only [Int.reduceToNat] at ho23; rw [← Ny447.out] at ho23))
       replace HO449 := Aside0.mk (Kd.R_lower ho23 (below_size (by repeat (first | (with_reducible first | exact HB.out | apply bA | apply bN | apply bD) | exact HB.out))))
       replace HB := Aside0.mk (below_step (by repeat (first | (with_reducible first | exact HB.out | apply bA | apply bN | apply bD) | exact HB.out)) hb)
       clear hb ho23
       refine hK.out _ _ ⟨((HB.out.cell (bl w _ hw438_0)).trans hw438_0), ((HB.out.cell (bl w _ hw438_1)).trans hw438_1), ((HB.out.cell (bl w _ hw438_2)).trans hw438_2), ((HB.out.cell (bl w _ hw440_0)).trans hw440_0), ((HB.out.cell (bl w _ hw440_1)).trans hw440_1), ((HB.out.cell (bl w _ hw440_2)).trans hw440_2), ((HB.out.cell (bl w _ hw441_0)).trans hw441_0), ((HB.out.cell (bl w _ hw441_1)).trans hw441_1), ((HB.out.cell (bl w _ hw453_0)).trans hw453_0), ((HB.out.cell (bl w _ hw453_1)).trans hw453_1), ((HB.out.cell (bl w _ hw453_2)).trans hw453_2)⟩ (fun hHeld => ?_)
       clear hK K
       refine nm_ 43 ?_
       refine two_ (i := 26) (j := 32) (Ni := some 45) (Nj := some 51) (bv 36 4294967295) (bv 36 8522825727) rfl rfl rfl rfl (two_of HT_.out (by kernel_rfl)) (by decide) (by decide) (fun K hK => ?_) (fun K hK => ?_)
       ·
        skip
        refine Kd.R_append_rows_step (Kd.int .i64) (w0 := w) w.heap.size (by rfl) (.tmp 43) (.tmp 44) 29 3 (.int .i64 0) 8 rfl Try.underlying29 info3 rfl (by decide) (by omega) v448 y447 l3 _ _ _ (fun _ => True) (fun _ => False) rfl rfl ?aO ?aR (fun _ _ h => h) (fun _ h => h.elim) ?aF ?aB ?aS ?aL ?_
        (case aR => repeat (first | exact (Kd.C_below HR3.out HB.out) | (with_reducible first | refine cA ?_ _ | refine cN ?_ _ | refine cD ?_)))
        (case aB => exact (by repeat (first | (with_reducible first | exact HB.out | apply bA | apply bN | apply bD) | exact HB.out)))
        (case aF => exact (fun _ _ => trivial))
        (case aO => exact (by (with_reducible repeat (first | apply rA | apply rN | apply rD)); exact HO449.out))
        (case aS => exact (below_size (by repeat (first | (with_reducible first | exact HB.out | apply bA | apply bN | apply bD) | exact HB.out))))
        (case aL => have := LMc15.out; omega)
        intro v451 w24 ho hb hg hat
        rw [← Ny450.out] at ho
        replace HB := Aside0.mk (hb)
        replace HO452 := Aside0.mk (ho)
        clear HO449
        clear ho hb hg hat
        refine hK.out _ _ ⟨((HB.out.cell (bl w _ hw438_0)).trans hw438_0), ((HB.out.cell (bl w _ hw438_1)).trans hw438_1), ((HB.out.cell (bl w _ hw438_2)).trans hw438_2), ((HB.out.cell (bl w _ hw440_0)).trans hw440_0), ((HB.out.cell (bl w _ hw440_1)).trans hw440_1), ((HB.out.cell (bl w _ hw440_2)).trans hw440_2), ((HB.out.cell (bl w _ hw441_0)).trans hw441_0), ((HB.out.cell (bl w _ hw441_1)).trans hw441_1), ((HB.out.cell (bl w _ hw453_0)).trans hw453_0), ((HB.out.cell (bl w _ hw453_1)).trans hw453_1), ((HB.out.cell (bl w _ hw453_2)).trans hw453_2)⟩ (fun hHeld => ?_)
        clear hK K
        refine nm_ 45 ?_
        refine one_ (i := 32) (N := some 51) (bv 36 8589934591) rfl rfl (one_of HT_.out (by kernel_rfl)) (by decide) (fun K hK => ?_)
        refine Kd.R_lit_step (Kd.int .i64) _ 3 ?hg (N := 51) ?hd (xs := ([(rd_T46 l1 x9_1).f0] : List Int)) (inner := [.int .i64 ((rd_T46 l1 x9_1).f0)]) (ok := fun _ => True) (okp := fun _ => True) ?hr ?hp (fun _ hk => hk) trivial (Below.refl _ _) (Nat.le_refl _) (by simp) ?_; (case hd => rfl); (case hg => rfl); (case hr => first | (go_simp; done) | (go_simp; rfl)); (case hp => exact (Reps.one (show Kd.M (Kd.int .i64) _ _ _ ((rd_T46 l1 x9_1).f0) [.int .i64 ((rd_T46 l1 x9_1).f0)] from rfl) (Reps.none _ _)))
        intro v455 w25 ho26 hb hg_ hnew_
        clear hg_ hnew_
        (first | rw [← Ny454.out] at ho26 | (simp only [Int.reduceToNat] at ho26; rw [← Ny454.out] at ho26))
        have n0_ := Aside0.mk (Kd.R_elder' (by (with_reducible repeat (first | apply rA | apply rN | apply rD)); exact HO452.out) (Kd.R_base ho26) hb)
        have n1_ := Aside0.mk (Kd.R_lower (Kd.R_new' ho26 (Kd.R_lt (by (with_reducible repeat (first | apply rA | apply rN | apply rD)); exact HO452.out))) (below_size (by repeat (first | (with_reducible first | exact HB.out | apply bA | apply bN | apply bD) | exact HB.out))))
        have n2_ := Aside0.mk (below_step (by repeat (first | (with_reducible first | exact HB.out | apply bA | apply bN | apply bD) | exact HB.out)) hb)
        clear HO452
        clear HB
        have HO452 := n0_
        have HO456 := n1_
        have HB := n2_
        clear n0_ n1_ n2_
        clear hb ho26
        refine hK.out _ _ ⟨((HB.out.cell (bl w _ hw438_0)).trans hw438_0), ((HB.out.cell (bl w _ hw438_1)).trans hw438_1), ((HB.out.cell (bl w _ hw438_2)).trans hw438_2), ((HB.out.cell (bl w _ hw440_0)).trans hw440_0), ((HB.out.cell (bl w _ hw440_1)).trans hw440_1), ((HB.out.cell (bl w _ hw440_2)).trans hw440_2), ((HB.out.cell (bl w _ hw441_0)).trans hw441_0), ((HB.out.cell (bl w _ hw441_1)).trans hw441_1), ((HB.out.cell (bl w _ hw453_0)).trans hw453_0), ((HB.out.cell (bl w _ hw453_1)).trans hw453_1), ((HB.out.cell (bl w _ hw453_2)).trans hw453_2)⟩ (fun hHeld => ?_)
        clear hK K
        refine nm_ 51 ?_
        exact norm_ (by simp only [putAll, Act.put, Z1, Z2, Z3]) (hCont (v448, v451, v455) _ ⟨hHeld, (by (with_reducible repeat (first | apply rA | apply rN | apply rD)); exact Kd.R_mono HO452.out (fun _ hk => hk.2)), (by (with_reducible repeat (first | apply rA | apply rN | apply rD)); exact Kd.R_mono HO456.out (fun _ hk => hk.2)), (by repeat (first | (with_reducible first | exact HB.out | apply bA | apply bN | apply bD) | exact HB.out))⟩)
       ·
        skip
        refine Kd.R_lit_step (Kd.int .i64) _ 3 ?hg (N := 51) ?hd (xs := ([(rd_T46 l1 x9_1).f0] : List Int)) (inner := [.int .i64 ((rd_T46 l1 x9_1).f0)]) (ok := fun _ => True) (okp := fun _ => True) ?hr ?hp (fun _ hk => hk) trivial (Below.refl _ _) (Nat.le_refl _) (by simp) ?_; (case hd => rfl); (case hg => rfl); (case hr => first | (go_simp; done) | (go_simp; rfl)); (case hp => exact (Reps.one (show Kd.M (Kd.int .i64) _ _ _ ((rd_T46 l1 x9_1).f0) [.int .i64 ((rd_T46 l1 x9_1).f0)] from rfl) (Reps.none _ _)))
        intro v455 w24 ho25 hb hg_ hnew_
        clear hg_ hnew_
        (first | rw [← Ny454.out] at ho25 | (simp only [Int.reduceToNat] at ho25; rw [← Ny454.out] at ho25))
        have n0_ := Aside0.mk (Kd.R_elder' (by (with_reducible repeat (first | apply rA | apply rN | apply rD)); exact HO449.out) (Kd.R_base ho25) hb)
        have n1_ := Aside0.mk (Kd.R_lower (Kd.R_new' ho25 (Kd.R_lt (by (with_reducible repeat (first | apply rA | apply rN | apply rD)); exact HO449.out))) (below_size (by repeat (first | (with_reducible first | exact HB.out | apply bA | apply bN | apply bD) | exact HB.out))))
        have n2_ := Aside0.mk (below_step (by repeat (first | (with_reducible first | exact HB.out | apply bA | apply bN | apply bD) | exact HB.out)) hb)
        clear HO449
        clear HB
        have HO449 := n0_
        have HO456 := n1_
        have HB := n2_
        clear n0_ n1_ n2_
        clear hb ho25
        refine hK.out _ _ ⟨((HB.out.cell (bl w _ hw438_0)).trans hw438_0), ((HB.out.cell (bl w _ hw438_1)).trans hw438_1), ((HB.out.cell (bl w _ hw438_2)).trans hw438_2), ((HB.out.cell (bl w _ hw440_0)).trans hw440_0), ((HB.out.cell (bl w _ hw440_1)).trans hw440_1), ((HB.out.cell (bl w _ hw440_2)).trans hw440_2), ((HB.out.cell (bl w _ hw441_0)).trans hw441_0), ((HB.out.cell (bl w _ hw441_1)).trans hw441_1), ((HB.out.cell (bl w _ hw453_0)).trans hw453_0), ((HB.out.cell (bl w _ hw453_1)).trans hw453_1), ((HB.out.cell (bl w _ hw453_2)).trans hw453_2)⟩ (fun hHeld => ?_)
        clear hK K
        refine nm_ 51 ?_
        refine one_ (i := 26) (N := some 45) (bv 36 8589934591) rfl rfl (one_of HT_.out (by kernel_rfl)) (by decide) (fun K hK => ?_)
        refine Kd.R_append_rows_step (Kd.int .i64) (w0 := w) w.heap.size (by rfl) (.tmp 43) (.tmp 44) 29 3 (.int .i64 0) 8 rfl Try.underlying29 info3 rfl (by decide) (by omega) v448 y447 l3 _ _ _ (fun k_ => some k_ ≠ (v455 : Value).ownBlock) (fun _ => False) rfl rfl ?aO ?aR (fun _ _ h => h) (fun _ h => h.elim) ?aF ?aB ?aS ?aL ?_
        (case aR => repeat (first | exact (Kd.C_below HR3.out HB.out) | (with_reducible first | refine cA ?_ _ | refine cN ?_ _ | refine cD ?_)))
        (case aB => exact (by repeat (first | (with_reducible first | exact HB.out | apply bA | apply bN | apply bD) | exact HB.out)))
        (case aF => exact (fun k_ hk => Kd.fresh' (Kd.R_lt (by (with_reducible repeat (first | apply rA | apply rN | apply rD)); exact HO456.out)) k_ hk))
        (case aO => exact (by (with_reducible repeat (first | apply rA | apply rN | apply rD)); exact Kd.R_mono HO449.out (fun _ hk => hk.2)))
        (case aS => exact (below_size (by repeat (first | (with_reducible first | exact HB.out | apply bA | apply bN | apply bD) | exact HB.out))))
        (case aL => have := LMc15.out; omega)
        intro v451 w26 ho hb hg hat
        rw [← Ny450.out] at ho
        replace HO456 := Aside0.mk (Kd.R_after (ok := (fun _ => True)) (by (with_reducible repeat (first | apply rA | apply rN | apply rD)); exact HO456.out) hg hat)
        replace HB := Aside0.mk (hb)
        replace HO452 := Aside0.mk (ho)
        clear HO449
        clear ho hb hg hat
        refine hK.out _ _ ⟨((HB.out.cell (bl w _ hw438_0)).trans hw438_0), ((HB.out.cell (bl w _ hw438_1)).trans hw438_1), ((HB.out.cell (bl w _ hw438_2)).trans hw438_2), ((HB.out.cell (bl w _ hw440_0)).trans hw440_0), ((HB.out.cell (bl w _ hw440_1)).trans hw440_1), ((HB.out.cell (bl w _ hw440_2)).trans hw440_2), ((HB.out.cell (bl w _ hw441_0)).trans hw441_0), ((HB.out.cell (bl w _ hw441_1)).trans hw441_1), ((HB.out.cell (bl w _ hw453_0)).trans hw453_0), ((HB.out.cell (bl w _ hw453_1)).trans hw453_1), ((HB.out.cell (bl w _ hw453_2)).trans hw453_2)⟩ (fun hHeld => ?_)
        clear hK K
        refine nm_ 45 ?_
        exact norm_ (by simp only [putAll, Act.put, Z1, Z2, Z3]) (hCont (v448, v451, v455) _ ⟨hHeld, (by (with_reducible repeat (first | apply rA | apply rN | apply rD)); exact HO452.out), (by (with_reducible repeat (first | apply rA | apply rN | apply rD)); exact Kd.R_mono HO456.out (fun _ hk => hk.2)), (by repeat (first | (with_reducible first | exact HB.out | apply bA | apply bN | apply bD) | exact HB.out))⟩)
      ·
       skip
       refine Kd.R_lit_step (Kd.int .i64) _ 3 ?hg (N := 51) ?hd (xs := ([(rd_T46 l1 x9_1).f0] : List Int)) (inner := [.int .i64 ((rd_T46 l1 x9_1).f0)]) (ok := fun _ => True) (okp := fun _ => True) ?hr ?hp (fun _ hk => hk) trivial (Below.refl _ _) (Nat.le_refl _) (by simp) ?_; (case hd => rfl); (case hg => rfl); (case hr => first | (go_simp; done) | (go_simp; rfl)); (case hp => exact (Reps.one (show Kd.M (Kd.int .i64) _ _ _ ((rd_T46 l1 x9_1).f0) [.int .i64 ((rd_T46 l1 x9_1).f0)] from rfl) (Reps.none _ _)))
       intro v455 w22 ho23 hb hg_ hnew_
       clear hg_ hnew_
       (first | rw [← Ny454.out] at ho23 | (simp only [Int.reduceToNat] at ho23; rw [← Ny454.out] at ho23))
       replace HO456 := Aside0.mk (Kd.R_lower ho23 (below_size (by repeat (first | (with_reducible first | exact HB.out | apply bA | apply bN | apply bD) | exact HB.out))))
       replace HB := Aside0.mk (below_step (by repeat (first | (with_reducible first | exact HB.out | apply bA | apply bN | apply bD) | exact HB.out)) hb)
       clear hb ho23
       refine hK.out _ _ ⟨((HB.out.cell (bl w _ hw438_0)).trans hw438_0), ((HB.out.cell (bl w _ hw438_1)).trans hw438_1), ((HB.out.cell (bl w _ hw438_2)).trans hw438_2), ((HB.out.cell (bl w _ hw440_0)).trans hw440_0), ((HB.out.cell (bl w _ hw440_1)).trans hw440_1), ((HB.out.cell (bl w _ hw440_2)).trans hw440_2), ((HB.out.cell (bl w _ hw441_0)).trans hw441_0), ((HB.out.cell (bl w _ hw441_1)).trans hw441_1), ((HB.out.cell (bl w _ hw453_0)).trans hw453_0), ((HB.out.cell (bl w _ hw453_1)).trans hw453_1), ((HB.out.cell (bl w _ hw453_2)).trans hw453_2)⟩ (fun hHeld => ?_)
       clear hK K
       refine nm_ 51 ?_
       refine one_ (i := 24) (N := some 43) (bv 36 8522825727) rfl rfl (one_of HT_.out (by kernel_rfl)) (by decide) (fun K hK => ?_)
       refine Kd.R_lit_step (Kd.int .i64) _ 3 ?hg (N := 43) ?hd (xs := ([] : List Int)) (inner := []) (ok := fun _ => True) (okp := fun _ => True) ?hr ?hp (fun _ hk => hk) trivial (Below.refl _ _) (Nat.le_refl _) (by simp) ?_; (case hd => rfl); (case hg => rfl); (case hr => first | (go_simp; done) | (go_simp; rfl)); (case hp => exact (Reps.none _ _))
       intro v448 w24 ho25 hb hg_ hnew_
       clear hg_ hnew_
       (first | rw [← Ny447.out] at ho25 | (simp only [Int.reduceToNat] at ho25; rw [← Ny447.out] at ho25))
       have n0_ := Aside0.mk (Kd.R_elder' (by (with_reducible repeat (first | apply rA | apply rN | apply rD)); exact HO456.out) (Kd.R_base ho25) hb)
       have n1_ := Aside0.mk (Kd.R_lower (Kd.R_new' ho25 (Kd.R_lt (by (with_reducible repeat (first | apply rA | apply rN | apply rD)); exact HO456.out))) (below_size (by repeat (first | (with_reducible first | exact HB.out | apply bA | apply bN | apply bD) | exact HB.out))))
       have n2_ := Aside0.mk (below_step (by repeat (first | (with_reducible first | exact HB.out | apply bA | apply bN | apply bD) | exact HB.out)) hb)
       clear HO456
       clear HB
       have HO456 := n0_
       have HO449 := n1_
       have HB := n2_
       clear n0_ n1_ n2_
       clear hb ho25
       refine hK.out _ _ ⟨((HB.out.cell (bl w _ hw438_0)).trans hw438_0), ((HB.out.cell (bl w _ hw438_1)).trans hw438_1), ((HB.out.cell (bl w _ hw438_2)).trans hw438_2), ((HB.out.cell (bl w _ hw440_0)).trans hw440_0), ((HB.out.cell (bl w _ hw440_1)).trans hw440_1), ((HB.out.cell (bl w _ hw440_2)).trans hw440_2), ((HB.out.cell (bl w _ hw441_0)).trans hw441_0), ((HB.out.cell (bl w _ hw441_1)).trans hw441_1), ((HB.out.cell (bl w _ hw453_0)).trans hw453_0), ((HB.out.cell (bl w _ hw453_1)).trans hw453_1), ((HB.out.cell (bl w _ hw453_2)).trans hw453_2)⟩ (fun hHeld => ?_)
       clear hK K
       refine nm_ 43 ?_
       refine one_ (i := 26) (N := some 45) (bv 36 8589934591) rfl rfl (one_of HT_.out (by kernel_rfl)) (by decide) (fun K hK => ?_)
       refine Kd.R_append_rows_step (Kd.int .i64) (w0 := w) w.heap.size (by rfl) (.tmp 43) (.tmp 44) 29 3 (.int .i64 0) 8 rfl Try.underlying29 info3 rfl (by decide) (by omega) v448 y447 l3 _ _ _ (fun k_ => some k_ ≠ (v455 : Value).ownBlock) (fun _ => False) rfl rfl ?aO ?aR (fun _ _ h => h) (fun _ h => h.elim) ?aF ?aB ?aS ?aL ?_
       (case aR => repeat (first | exact (Kd.C_below HR3.out HB.out) | (with_reducible first | refine cA ?_ _ | refine cN ?_ _ | refine cD ?_)))
       (case aB => exact (by repeat (first | (with_reducible first | exact HB.out | apply bA | apply bN | apply bD) | exact HB.out)))
       (case aF => exact (fun k_ hk => Kd.fresh' (Kd.R_lt (by (with_reducible repeat (first | apply rA | apply rN | apply rD)); exact HO456.out)) k_ hk))
       (case aO => exact (by (with_reducible repeat (first | apply rA | apply rN | apply rD)); exact Kd.R_mono HO449.out (fun _ hk => hk.2)))
       (case aS => exact (below_size (by repeat (first | (with_reducible first | exact HB.out | apply bA | apply bN | apply bD) | exact HB.out))))
       (case aL => have := LMc15.out; omega)
       intro v451 w26 ho hb hg hat
       rw [← Ny450.out] at ho
       replace HO456 := Aside0.mk (Kd.R_after (ok := (fun _ => True)) (by (with_reducible repeat (first | apply rA | apply rN | apply rD)); exact HO456.out) hg hat)
       replace HB := Aside0.mk (hb)
       replace HO452 := Aside0.mk (ho)
       clear HO449
       clear ho hb hg hat
       refine hK.out _ _ ⟨((HB.out.cell (bl w _ hw438_0)).trans hw438_0), ((HB.out.cell (bl w _ hw438_1)).trans hw438_1), ((HB.out.cell (bl w _ hw438_2)).trans hw438_2), ((HB.out.cell (bl w _ hw440_0)).trans hw440_0), ((HB.out.cell (bl w _ hw440_1)).trans hw440_1), ((HB.out.cell (bl w _ hw440_2)).trans hw440_2), ((HB.out.cell (bl w _ hw441_0)).trans hw441_0), ((HB.out.cell (bl w _ hw441_1)).trans hw441_1), ((HB.out.cell (bl w _ hw453_0)).trans hw453_0), ((HB.out.cell (bl w _ hw453_1)).trans hw453_1), ((HB.out.cell (bl w _ hw453_2)).trans hw453_2)⟩ (fun hHeld => ?_)
       clear hK K
       refine nm_ 45 ?_
       exact norm_ (by simp only [putAll, Act.put, Z1, Z2, Z3]) (hCont (v448, v451, v455) _ ⟨hHeld, (by (with_reducible repeat (first | apply rA | apply rN | apply rD)); exact HO452.out), (by (with_reducible repeat (first | apply rA | apply rN | apply rD)); exact Kd.R_mono HO456.out (fun _ hk => hk.2)), (by repeat (first | (with_reducible first | exact HB.out | apply bA | apply bN | apply bD) | exact HB.out))⟩)
     rintro ⟨v448, v451, v455⟩ w27 ⟨hS_, h0_, h1_, h2_⟩
     have n0_ : Aside0 (Kd.R (Kd.int .i64) 3 w27 w.heap.size (fun k_ => some k_ ≠ (v455 : Value).ownBlock) v451 y450) := ⟨h0_⟩
     have n1_ : Aside0 (Kd.R (Kd.int .i64) 3 w27 w.heap.size (fun k_ => some k_ ≠ (v451 : Value).ownBlock) v455 y454) := ⟨h1_⟩
     have n2_ : Aside0 (Below w.heap.size w w27) := ⟨h2_⟩
     clear HB
     clear h0_ h1_ h2_
     have HO452 := n0_
     have HO456 := n1_
     have HB := n2_
     clear n0_ n1_ n2_
     have hHeld : w27.cell? (ad438.add ((x9_1).toNat * 3)) = some (.int .i64 ((rd_T46 l1 x9_1).f0)) ∧ w27.cell? ⟨(ad438.add ((x9_1).toNat * 3)).block, (ad438.add ((x9_1).toNat * 3)).off + 1, none⟩ = some (.int .i64 ((rd_T46 l1 x9_1).f1)) ∧ w27.cell? ⟨(ad438.add ((x9_1).toNat * 3)).block, (ad438.add ((x9_1).toNat * 3)).off + 2, none⟩ = some (.slice A438_2 ((rd_T46 l1 x9_1).f2).length c438_2) ∧ w27.cell? (ad438.add ((x9_1).toNat * 3)) = some (.int .i64 ((rd_T46 l1 x9_1).f0)) ∧ w27.cell? ⟨(ad438.add ((x9_1).toNat * 3)).block, (ad438.add ((x9_1).toNat * 3)).off + 1, none⟩ = some (.int .i64 ((rd_T46 l1 x9_1).f1)) ∧ w27.cell? ⟨(ad438.add ((x9_1).toNat * 3)).block, (ad438.add ((x9_1).toNat * 3)).off + 2, none⟩ = some (.slice A438_2 ((rd_T46 l1 x9_1).f2).length c438_2) ∧ w27.cell? ad441 = some (.int .i64 ((rd_T48 l2 0).f0)) ∧ w27.cell? ⟨ad441.block, ad441.off + 1, none⟩ = some (.int .i64 ((rd_T48 l2 0).f1)) ∧ w27.cell? (ad438.add ((x9_1).toNat * 3)) = some (.int .i64 ((rd_T46 l1 x9_1).f0)) ∧ w27.cell? ⟨(ad438.add ((x9_1).toNat * 3)).block, (ad438.add ((x9_1).toNat * 3)).off + 1, none⟩ = some (.int .i64 ((rd_T46 l1 x9_1).f1)) ∧ w27.cell? ⟨(ad438.add ((x9_1).toNat * 3)).block, (ad438.add ((x9_1).toNat * 3)).off + 2, none⟩ = some (.slice A453_2 ((rd_T46 l1 x9_1).f2).length c453_2) := hS_
     obtain ⟨Ao29, co29, eo29⟩ := Kd.R_slice HO456.out
     (first | subst eo29 | (injection eo29 with f1_ f2_ f3_; have f4_ := f1_.symm; have f5_ := f3_.symm; clear f1_ f2_ f3_; subst f4_; subst f5_))
     refine norm_ (a' := ?_) ?_ ?_
     rotate_left
     ·
      simp only [putAll, Act.put, Z1, Z2, Z3]
      rfl
     refine one_ (i := 33) (N := some 52) (bv 36 17179869183) rfl rfl (one_of HT_.out (by kernel_rfl)) (by decide) (fun K hK => ?_)
     refine Kd.R_append_rows_step (Kd.int .i64) (w0 := w) w.heap.size (by rfl) (.tmp 45) (.tmp 51) 29 3 (.int .i64 0) 8 rfl Try.underlying29 info3 rfl (by decide) (by omega) v451 y450 y454 _ _ _ (fun k_ => some k_ ≠ (.slice Ao29 y454.length co29 : Value).ownBlock) (fun _ => False) rfl rfl ?aO ?aR (fun _ _ h => h) (fun _ h => h.elim) ?aF ?aB ?aS ?aL ?_
     (case aR => repeat (first | exact (Kd.R_reads' HO456.out).2.2 | (with_reducible first | refine cA ?_ _ | refine cN ?_ _ | refine cD ?_)))
     (case aB => exact (by repeat (first | (with_reducible first | exact HB.out | apply bA | apply bN | apply bD) | exact HB.out)))
     (case aF => exact (fun k_ hk => Kd.fresh' (Kd.R_lt (by (with_reducible repeat (first | apply rA | apply rN | apply rD)); exact HO456.out)) k_ hk))
     (case aO => exact (by (with_reducible repeat (first | apply rA | apply rN | apply rD)); exact HO452.out))
     (case aS => exact (below_size (by repeat (first | (with_reducible first | exact HB.out | apply bA | apply bN | apply bD) | exact HB.out))))
     (case aL => have := LMc16.out; omega)
     intro v458 w28 ho hb hg hat
     rw [← Ny457.out] at ho
     replace HO456 := Aside0.mk (Kd.R_after (ok := (fun _ => True)) (by (with_reducible repeat (first | apply rA | apply rN | apply rD)); exact Kd.R_mono HO456.out (fun _ hk => ⟨trivial, hk⟩)) hg hat)
     replace HB := Aside0.mk (hb)
     replace HO459 := Aside0.mk (ho)
     clear HO452
     clear ho hb hg hat
     obtain ⟨Ao30, co30, eo30⟩ := Kd.R_slice HO459.out
     (first | subst eo30 | (injection eo30 with f1_ f2_ f3_; have f4_ := f1_.symm; have f5_ := f3_.symm; clear f1_ f2_ f3_; subst f4_; subst f5_))
     refine hK.out _ _ ⟨((HB.out.cell (bl w _ hw438_0)).trans hw438_0), ((HB.out.cell (bl w _ hw438_1)).trans hw438_1), ((HB.out.cell (bl w _ hw438_2)).trans hw438_2), ((HB.out.cell (bl w _ hw440_0)).trans hw440_0), ((HB.out.cell (bl w _ hw440_1)).trans hw440_1), ((HB.out.cell (bl w _ hw440_2)).trans hw440_2), ((HB.out.cell (bl w _ hw441_0)).trans hw441_0), ((HB.out.cell (bl w _ hw441_1)).trans hw441_1), ((HB.out.cell (bl w _ hw453_0)).trans hw453_0), ((HB.out.cell (bl w _ hw453_1)).trans hw453_1), ((HB.out.cell (bl w _ hw453_2)).trans hw453_2)⟩ (fun hHeld => ?_)
     clear hK K
     refine nm_ 52 ?_
     refine one_ (i := 34) (N := some 53) (bv 36 34359738367) rfl rfl (one_of HT_.out (by kernel_rfl)) (by decide) (fun K hK => ?_)
     refine goes_ Try.func43 (by kernel_rfl) rfl #[.slice A0 l0.length c0, .slice (some ad438) l1.length c1, .slice A21 y443.length c21, .slice Ao30 y457.length co30] (by rfl) rfl rfl (by (try simp only [Y1, Y2, Y3]); first | done | rfl | (simp only [Y4, Y5]; rfl)) ?_
     with_reducible refine (ih k1 (by have := HK1.out; omega) _ _ l0 _ _ l1 _ _ y443 _ _ y457 true _ ?side1 ?side2 ?side3 ?side4 ?side5 ?side6 ?side7 ?side8 A17.out).mono ?_
     (case side1 => repeat (first | exact (Kd.C_below HR0.out HB.out) | (with_reducible first | refine cA ?_ _ | refine cN ?_ _ | refine cD ?_)))
     (case side2 => exact HC0.out)
     (case side3 => repeat (first | exact (Kd.C_below HR1.out HB.out) | (with_reducible first | refine cA ?_ _ | refine cN ?_ _ | refine cD ?_)))
     (case side4 => exact HC1.out)
     (case side5 => repeat (first | exact (Kd.C_below HR446.out HB.out) | (with_reducible first | refine cA ?_ _ | refine cN ?_ _ | refine cD ?_)))
     (case side6 => exact HC446.out)
     (case side7 => repeat (first | exact (Kd.R_reads' HO459.out).2.2 | (with_reducible first | refine cA ?_ _ | refine cN ?_ _ | refine cD ?_)))
     (case side8 => exact (Kd.R_reads' HO459.out).2.1)
     rintro e w31 ⟨rfl, hb⟩
     refine ⟨_, rfl, ?_⟩
     replace HO456 := Aside0.mk (Kd.R_below (by (with_reducible repeat (first | apply rA | apply rN | apply rD)); exact HO456.out) hb)
     replace HO459 := Aside0.mk (Kd.R_below (by (with_reducible repeat (first | apply rA | apply rN | apply rD)); exact HO459.out) hb)
     replace HB := Aside0.mk (below_step (by repeat (first | (with_reducible first | exact HB.out | apply bA | apply bN | apply bD) | exact HB.out)) hb)
     (try clear hb)
     (try clear hb2)
     (try clear hk)
     (try clear hi)
     refine hK.out _ _ ⟨((HB.out.cell (bl w _ hw438_0)).trans hw438_0), ((HB.out.cell (bl w _ hw438_1)).trans hw438_1), ((HB.out.cell (bl w _ hw438_2)).trans hw438_2), ((HB.out.cell (bl w _ hw440_0)).trans hw440_0), ((HB.out.cell (bl w _ hw440_1)).trans hw440_1), ((HB.out.cell (bl w _ hw440_2)).trans hw440_2), ((HB.out.cell (bl w _ hw441_0)).trans hw441_0), ((HB.out.cell (bl w _ hw441_1)).trans hw441_1), ((HB.out.cell (bl w _ hw453_0)).trans hw453_0), ((HB.out.cell (bl w _ hw453_1)).trans hw453_1), ((HB.out.cell (bl w _ hw453_2)).trans hw453_2)⟩ (fun hHeld => ?_)
     clear hK K
     refine nm_ 53 ?_
     refine pv_ 36 35 54 68719476735 rfl rfl HT_ ?_
     refine done_ (done_of HT_.out (by kernel_rfl)) ?_
     try go_wp2
     all_goals (go_ret; exact ⟨by first | rfl | (simp [*, errW_none, errW_some] <;> rfl), by repeat (first | (with_reducible first | exact HB.out | apply bA | apply bN | apply bD) | exact HB.out)⟩)
    subst c9
    have H1 : (laws_seating.l0 k1 l0 l1 l2 l3 (wrap64 (x9_1 + 1))) = some r := by rw [if_pos rfl] at H; exact H
    clear H
    have H := H1
    clear H1
    have H' := Aside0.mk H
    clear H
    try go_wp2
    replace HB := Aside0.mk (below_drew1 HB.out)
    have p438 : 0 ≤ (x9_1 : Int) := od (by assumption)
    have q438 : x9_1 < (l1.length : Int) := od (by assumption)
    obtain ⟨ad438, A438_2, c438_2, e438, hx438_0, hx438_1, hx438_2, hl438_2, hi438_2⟩ := at_T46 HR1.out x9_1 p438 q438
    have hw438_2 := hx438_2
    have hw438_1 := hx438_1
    have hw438_0 := hx438_0
    cases e438
    replace hx438_0 := (HB.out.cell (bl w _ hx438_0)).trans hx438_0
    replace hx438_1 := (HB.out.cell (bl w _ hx438_1)).trans hx438_1
    replace hx438_2 := (HB.out.cell (bl w _ hx438_2)).trans hx438_2
    have HR438_2 := Aside0.mk hi438_2
    have HC438_2 := Aside0.mk hl438_2
    clear hi438_2 hl438_2
    replace p438 := eq_true p438
    replace q438 := eq_true q438
    refine start_ (n := 36) (S := fun w' => w'.cell? (ad438.add ((x9_1).toNat * 3)) = some (.int .i64 ((rd_T46 l1 x9_1).f0)) ∧ w'.cell? ⟨(ad438.add ((x9_1).toNat * 3)).block, (ad438.add ((x9_1).toNat * 3)).off + 1, none⟩ = some (.int .i64 ((rd_T46 l1 x9_1).f1)) ∧ w'.cell? ⟨(ad438.add ((x9_1).toNat * 3)).block, (ad438.add ((x9_1).toNat * 3)).off + 2, none⟩ = some (.slice A438_2 ((rd_T46 l1 x9_1).f2).length c438_2)) (ds := []) (bv 36 0) (by kernel_rfl) rfl rfl ⟨((HB.out.cell (bl w _ hw438_0)).trans hw438_0), ((HB.out.cell (bl w _ hw438_1)).trans hw438_1), ((HB.out.cell (bl w _ hw438_2)).trans hw438_2)⟩ (fun hHeld => ?_); refine with_tabW laws_seating.tab6 laws_seating.bits6 (fun HT_ HW_ => ?_)
    generalize wr.drew = w10 at HB HR438_2 hx438_0 hx438_1 hx438_2 hHeld ⊢
    refine pv_ 36 0 19 1 rfl rfl HT_ ?_; refine pv_ 36 1 20 3 rfl rfl HT_ ?_; refine pv_ 36 2 21 7 rfl rfl HT_ ?_; refine pv_ 36 3 22 15 rfl rfl HT_ ?_; refine pv_ 36 4 23 31 rfl rfl HT_ ?_
    refine tv_ 36 5 24 63 rfl rfl HT_ HW_ hHeld (by rintro w' ⟨s0, s1, s2⟩; go_simp; with_reducible rfl) ?_
    refine one_ (i := 6) (N := some 25) (bv 36 127) rfl rfl (one_of HT_.out (by kernel_rfl)) (by decide) (fun K hK => ?_)
    refine goes_ Try.func44 (by kernel_rfl) rfl #[.slice A3 l3.length c3, .int .i64 ((rd_T46 l1 x9_1).f0)] (by rfl) rfl rfl (by (try simp only [Y1, Y2, Y3]); first | done | rfl | (simp only [Y4, Y5]; rfl)) ?_
    with_reducible refine (laws_contains.calls k1 _ _ l3 ((rd_T46 l1 x9_1).f0) true _ ?side1 ?side2 A8.out).mono ?_
    (case side1 => repeat (first | exact (Kd.C_below HR3.out HB.out) | (with_reducible first | refine cA ?_ _ | refine cN ?_ _ | refine cD ?_)))
    (case side2 => exact HC3.out)
    rintro e w' ⟨rfl, ⟨nd, rfl⟩⟩
    refine ⟨_, rfl, ?_⟩
    refine hK.out _ _ ⟨((HB.out.cell (bl w _ hw438_0)).trans hw438_0), ((HB.out.cell (bl w _ hw438_1)).trans hw438_1), ((HB.out.cell (bl w _ hw438_2)).trans hw438_2)⟩ (fun hHeld => ?_)
    clear hK K
    refine nm_ 25 ?_
    refine pv_ 36 7 26 255 rfl rfl HT_ ?_; refine pv_ 36 8 27 511 rfl rfl HT_ ?_; refine pu_ 36 9 28 1023 rfl rfl HT_ ?_; refine pu_ 36 10 29 2047 rfl rfl HT_ ?_; refine pu_ 36 11 30 4095 rfl rfl HT_ ?_; refine pu_ 36 12 31 8191 rfl rfl HT_ ?_; refine pu_ 36 13 32 16383 rfl rfl HT_ ?_; refine pu_ 36 14 33 32767 rfl rfl HT_ ?_; refine pu_ 36 15 34 65535 rfl rfl HT_ ?_; refine pu_ 36 16 35 131071 rfl rfl HT_ ?_; refine pu_ 36 17 36 262143 rfl rfl HT_ ?_; refine pv_ 36 18 37 524287 rfl rfl HT_ ?_; refine pv_ 36 19 38 1048575 rfl rfl HT_ ?_; refine pu_ 36 20 39 2097151 rfl rfl HT_ ?_; refine pu_ 36 21 40 4194303 rfl rfl HT_ ?_; refine pu_ 36 22 41 8388607 rfl rfl HT_ ?_; refine pu_ 36 23 42 16777215 rfl rfl HT_ ?_; refine pu_ 36 24 43 33554431 rfl rfl HT_ ?_; refine pu_ 36 25 44 67108863 rfl rfl HT_ ?_; refine pu_ 36 26 45 134217727 rfl rfl HT_ ?_; refine pu_ 36 27 46 268435455 rfl rfl HT_ ?_
    refine pu_ 36 28 47 536870911 rfl rfl HT_ ?_; refine pu_ 36 29 48 1073741823 rfl rfl HT_ ?_; refine pu_ 36 30 49 2147483647 rfl rfl HT_ ?_; refine pu_ 36 31 50 4294967295 rfl rfl HT_ ?_; refine pu_ 36 32 51 8589934591 rfl rfl HT_ ?_; refine pu_ 36 33 52 17179869183 rfl rfl HT_ ?_; refine pu_ 36 34 53 34359738367 rfl rfl HT_ ?_; refine pv_ 36 35 54 68719476735 rfl rfl HT_ ?_
    refine done_ (done_of HT_.out (by kernel_rfl)) ?_
    try go_wp2
    go_roundg k1
    case measure => have := HK1.out; omega
    case rel => exact ⟨(wrap64 (x9_1 + 1)), (by first | rfl | (simp; done) | (simp [*]; done)), H', ⟨by have := HK1.out; omega⟩, ⟨by repeat (first | (with_reducible first | exact HB.out | apply bA | apply bN | apply bD) | exact HB.out)⟩⟩
 rw [if_pos c5] at H
 have c5b0 : ((l2.length : Int) == 0) = true := beq_iff_eq.mpr c5
 have c5b1 : ((l2.length : Int) != 0) = false := bne_eq_false_iff_eq.mpr c5
 clear c5
 obtain rfl := Option.some.inj H
 go_enter Try.func43, Try.ntmps43
 go_wp2
 all_goals (go_ret; exact ⟨by first | rfl | (simp [*, errW_none, errW_some] <;> rfl), by repeat (first | (with_reducible first | exact HB.out | apply bA | apply bN | apply bD) | exact HB.out)⟩)
end Go.Proofs.Ytdlebbmmanjffaa.A
end
