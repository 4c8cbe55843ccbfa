/- What the row FnJudges rests on, put together: A28, A30, A31, A32, A33, A34, A35, A36. No condition. -/
import Derived.Test.YtdlebbmmanjffaaSFnJudgesx0
import Derived.Test.YtdlebbmmanjffaaSFnJudgesx2
import Derived.Test.YtdlebbmmanjffaaSFnJudgesx1
section
namespace Go.Proofs.Ytdlebbmmanjffaa.A
open Go.RowKit Go.Proofs.YtdlebbmmanjffaaW.PrintWords Go.Proofs.YtdlebbmmanjffaaW.PrintLast Go.Proofs.YtdlebbmmanjffaaW.PrintMore
attribute [local go_sem] max2_int min2_int max_two min_two max_three min_three max_four min_four
set_option linter.unusedVariables false
set_option linter.unusedSimpArgs false
mutual
def spec_l20Search.l0 : Nat → List (S78) → List Int → Int → Option ((List (S48)) × Bool)
  | 0, _, _, _ => none
  | k + 1, x0, x1, x6 => if x6 < (x1.length : Int) then (if 0 < (x1.length : Int) then (if 0 ≤ x6 then ((spec_MayMeet.f k x0 (rd x1 0) (rd x1 x6)).bind fun t216 => (if t216 = true then ((some (([] : List Int) : List Int)).bind fun y217 => (if 1 ≤ x6 then (if x6 ≤ (x1.length : Int) then (if y217.length + ((x1.take (x6 : Int).toNat).drop 1).length < 17592186044416 then ((some (y217 ++ ((x1.take (x6 : Int).toNat).drop 1) : List Int)).bind fun y221 => (if 0 ≤ (wrap64 (x6 + 1)) then (if (wrap64 (x6 + 1)) ≤ (x1.length : Int) then (if y221.length + (x1.drop ((wrap64 (x6 + 1)) : Int).toNat).length < 17592186044416 then ((spec_l20Search.f k x0 (y221 ++ (x1.drop ((wrap64 (x6 + 1)) : Int).toNat))).bind fun bt228 => (if bt228.2 = true then ((spec_SideFor.f k x0 (rd x1 0) (rd x1 x6)).bind fun bt234 => ((some (([(⟨bt234.1, bt234.2⟩ : S48)] : List (S48)) : List (S48))).bind fun y236 => (if y236.length + bt228.1.length < 8796093022208 then (some ((y236 ++ bt228.1), true)) else (none)))) else (spec_l20Search.l0 k x0 x1 (wrap64 (x6 + 1))))) else (none)) else (none)) else (none))) else (none)) else (none)) else (none))) else (spec_l20Search.l0 k x0 x1 (wrap64 (x6 + 1))))) else (none)) else (none)) else (some ((([] : List (S48))), false))
def spec_l20Search.f : Nat → List (S78) → List Int → Option ((List (S48)) × Bool)
  | 0, _, _ => none
  | k + 1, l0, l1 => if (l1.length : Int) = 0 then (some ((([] : List (S48))), true)) else (spec_l20Search.l0 k l0 l1 1)
end
def spec_l20Search.T6 : Bool × List (List Nat × List Nat) := (true, [([], []), ([], []), ([1], [1]), ([2], [2]), ([], []), ([], []), ([4, 5], [4, 5]), ([6], [6]), ([0, 3, 7], [0, 3, 7]), ([8], [8])])
def spec_l20Search.B6 : List Nat := [0, 0, 2, 6, 0, 0, 48, 112, 255, 511]
theorem spec_l20Search.tab6 : rtab .any (opsOf Try.f77 6) = spec_l20Search.T6 := by kernel_rfl
theorem spec_l20Search.bits6 : waitsOk spec_l20Search.T6.2 spec_l20Search.B6 = true := by kernel_rfl
def spec_l20Search.T7 : Bool × List (List Nat × List Nat) := (true, [([], []), ([], []), ([], []), ([1, 2], [1, 2]), ([0, 3], [0, 3]), ([], []), ([], []), ([6], [6]), ([5, 7], [5, 7]), ([4, 8, 4], [4, 8]), ([9, 9, 0, 1, 2, 3, 4, 5, 6, 7, 8, 9], [9])])
def spec_l20Search.B7 : List Nat := [0, 0, 0, 6, 15, 0, 0, 64, 224, 511, 1023]
theorem spec_l20Search.tab7 : rtab .any (opsOf Try.f77 7) = spec_l20Search.T7 := by kernel_rfl
theorem spec_l20Search.bits7 : waitsOk spec_l20Search.T7.2 spec_l20Search.B7 = true := by kernel_rfl
def spec_l20Search.T10 : Bool × List (List Nat × List Nat) := (true, [([], []), ([], []), ([1], [1]), ([2], [2]), ([], []), ([], []), ([4, 5], [4, 5]), ([6], [6]), ([0, 3, 7], [0, 3, 7]), ([8], [8]), ([], []), ([9, 10, 8], [9, 10]), ([11, 11, 0, 1, 2, 3, 4, 5, 6, 7, 8, 9, 10, 11], [11]), ([12, 0, 1, 2, 3, 4, 5, 6, 7, 8, 9, 10, 11, 12], [])])
def spec_l20Search.B10 : List Nat := [0, 0, 2, 6, 0, 0, 48, 112, 255, 511, 0, 2047, 4095, 8191]
theorem spec_l20Search.tab10 : rtab .any (opsOf Try.f77 10) = spec_l20Search.T10 := by kernel_rfl
theorem spec_l20Search.bits10 : waitsOk spec_l20Search.T10.2 spec_l20Search.B10 = true := by kernel_rfl
set_option maxHeartbeats 8000000 in
set_option maxRecDepth 100000 in
theorem spec_l20Search.calls (k : Nat) : ∀ (A0 : Option Addr) (c0 : Nat) (l0 : List (S78)) (A1 : Option Addr) (c1 : Nat) (l1 : List Int) (r1 : List (S48)) (r2 : Bool) (w : World) (hr0 : Kd.C k78 w A0 l0.length l0) (hc0 : l0.length ≤ c0) (hr1 : Kd.C (Kd.int .i64) w A1 l1.length l1) (hc1 : l1.length ≤ c1) (h : spec_l20Search.f k l0 l1 = some (r1, r2)),
  Calls Try.prog 77 #[.slice A0 l0.length c0, .slice A1 l1.length c1] w fun e w' => ∃ v0_ : Value, e = .returned (.tuple #[v0_, .bool r2]) ∧ Kd.R k48 48 w' w.heap.size (fun _ => True) v0_ r1 ∧ Below w.heap.size w w' := by
 induction k using Nat.strongRecOn with
 | _ k ih =>
 intro A0 c0 l0 A1 c1 l1 r1 r2 w hr0 hc0 hr1 hc1 h
 cases k with
 | zero => exact absurd h (by simp [spec_l20Search.f])
 | succ k =>
 simp only [spec_l20Search.f] at h
 have HR0 := Aside0.mk hr0
 have HC0 := Aside0.mk hc0
 clear hr0 hc0
 have HR1 := Aside0.mk hr1
 have HC1 := Aside0.mk hc1
 clear hr1 hc1
 have HB := Aside0.mk (Below.refl w.heap.size w)
 have H : (if (l1.length : Int) = 0 then (some ((([] : List (S48))), true)) else (spec_l20Search.l0 k l0 l1 1)) = some (r1, r2) := h
 clear h
 by_cases c3 : (l1.length : Int) = 0
 rotate_left
 ·
  rw [if_neg c3] at H
  have c3b0 : ((l1.length : Int) == 0) = false := beq_eq_false_iff_ne.mpr c3
  have c3b1 : ((l1.length : Int) != 0) = true := bne_iff_ne.mpr c3
  have c3b2 : ¬ (l1 = []) := fun h_ => c3 (by rw [h_]; rfl)
  have H' := Aside0.mk H
  clear H
  go_enter Try.func77, Try.ntmps77
  go_wp2
  go_loopg [6] k (fun kq v6 w' => ∃ (x6_1 : Int), v6 = .int .i64 x6_1 ∧ Aside0 (spec_l20Search.l0 kq l0 l1 x6_1 = some (r1, r2)) ∧ Aside0 (kq ≤ k) ∧ Aside0 (Below w.heap.size w w'))
  case atStart => exact ⟨(1), (by first | rfl | (simp; done) | (simp [*]; done)), H', ⟨Nat.le_refl _⟩, ⟨by repeat (first | (with_reducible first | exact HB.out | apply bA | apply bN | apply bD) | exact HB.out)⟩⟩
  case round =>
   clear H'
   try clear c1
   try clear p2
   try clear c3
   try clear c3b0
   try clear c3b1
   try clear c3b2
   obtain ⟨x6_1, rfl, HA, HK1, HB⟩ := hrel
   cases gk with
   | zero => exact absurd HA.out (by simp [spec_l20Search.l0])
   | succ k1 =>
    have H := HA.out
    clear HA
    simp only [spec_l20Search.l0] at H
    by_cases c6 : x6_1 < (l1.length : Int)
    rotate_left
    ·
     rw [if_neg c6] at H
     have c6b0 : decide (x6_1 < (l1.length : Int)) = false := decide_eq_false c6
     clear c6
     obtain ⟨y211, hy211⟩ : ∃ y_ : List (S48), y_ = (([] : List (S48))) := ⟨_, rfl⟩
     replace H : (some (y211, false)) = some (r1, r2) := by first | (rw [hy211]; with_reducible exact H) | (have H2_ := (Option.bind_some _ _).symm.trans H; rw [hy211]; with_reducible exact H2_) | (have H2_ := (Option.bind_some _ _).symm.trans H; with_reducible exact H2_) | with_reducible exact H | (rw [hy211]; exact H) | exact H
     have Ny211 := Aside0.mk hy211
     clear hy211
     simp only [Option.some.injEq, Prod.mk.injEq] at H
     obtain ⟨rfl, rfl⟩ := H
     go_wp2_with (first | ((with_reducible refine gate_dst (N := 59) rfl ?_); refine Kd.R_lit k48 _ 48 ?hg (N := 59) ?hd (xs := ([] : List (S48))) (inner := []) (ok := fun _ => True) (okp := fun _ => True) ?hr ?hp (fun _ hk => hk) trivial (Below.refl _ _) (Nat.le_refl _) (by simp) ?_; (case hd => rfl); (case hg => rfl); (case hr => first | (go_simp; done) | (go_simp; rfl)); (case hp => exact (Reps.none _ _)); intro v212 w52 ho53 hb hg_ hnew_; clear hg_ hnew_; (first | rw [← Ny211.out] at ho53 | (simp only [Int.reduceToNat] at ho53; rw [← Ny211.out] at ho53)); replace HO213 := Aside0.mk (Kd.R_lower ho53 (below_size (by repeat (first | (with_reducible first | exact HB.out | apply bA | apply bN | apply bD) | exact HB.out)))); replace HB := Aside0.mk (below_step (by repeat (first | (with_reducible first | exact HB.out | apply bA | apply bN | apply bD) | exact HB.out)) hb); clear hb ho53))
     go_ret2
     exact ⟨_, by first | rfl | (simp [*, errW_none, errW_some] <;> rfl), by (with_reducible repeat (first | apply rA | apply rN | apply rD)); exact HO213.out, by repeat (first | (with_reducible first | exact HB.out | apply bA | apply bN | apply bD) | exact HB.out)⟩

    rw [if_pos c6] at H
    have c6b0 : decide (x6_1 < (l1.length : Int)) = true := decide_eq_true c6
    clear c6
    by_cases c7 : 0 < (l1.length : Int)
    rotate_left
    ·
     rw [if_neg c7] at H
     exact absurd H (by simp)
    rw [if_pos c7] at H
    have c7b0 : decide (0 < (l1.length : Int)) = true := decide_eq_true c7
    have c7b1 : decide (0 < l1.length) = true := decide_eq_true (by omega)
    clear c7
    by_cases c8 : 0 ≤ x6_1
    rotate_left
    ·
     rw [if_neg c8] at H
     exact absurd H (by simp)
    rw [if_pos c8] at H
    have c8b0 : decide (0 ≤ x6_1) = true := decide_eq_true c8
    clear c8
    replace H := Option.bind_eq_some_iff.mp H
    obtain ⟨t216, A90, H⟩ := H
    replace H : (if t216 = true then ((some (([] : List Int) : List Int)).bind fun y217 => (if 1 ≤ x6_1 then (if x6_1 ≤ (l1.length : Int) then (if y217.length + ((l1.take (x6_1 : Int).toNat).drop 1).length < 17592186044416 then ((some (y217 ++ ((l1.take (x6_1 : Int).toNat).drop 1) : List Int)).bind fun y221 => (if 0 ≤ (wrap64 (x6_1 + 1)) then (if (wrap64 (x6_1 + 1)) ≤ (l1.length : Int) then (if y221.length + (l1.drop ((wrap64 (x6_1 + 1)) : Int).toNat).length < 17592186044416 then ((spec_l20Search.f k1 l0 (y221 ++ (l1.drop ((wrap64 (x6_1 + 1)) : Int).toNat))).bind fun bt228 => (if bt228.2 = true then ((spec_SideFor.f k1 l0 (rd l1 0) (rd l1 x6_1)).bind fun bt234 => ((some (([(⟨bt234.1, bt234.2⟩ : S48)] : List (S48)) : List (S48))).bind fun y236 => (if y236.length + bt228.1.length < 8796093022208 then (some ((y236 ++ bt228.1), true)) else (none)))) else (spec_l20Search.l0 k1 l0 l1 (wrap64 (x6_1 + 1))))) else (none)) else (none)) else (none))) else (none)) else (none)) else (none))) else (spec_l20Search.l0 k1 l0 l1 (wrap64 (x6_1 + 1)))) = some (r1, r2) := H
    have A9 := Aside0.mk A90
    clear A90
    by_cases c10 : t216 = true
    rotate_left
    ·
     replace c10 := Bool.eq_false_iff.mpr c10
     subst c10
     have H1 : (spec_l20Search.l0 k1 l0 l1 (wrap64 (x6_1 + 1))) = some (r1, r2) := by rw [if_neg (show ¬ (false = true) by decide)] at H; exact H
     clear H
     have H := H1
     clear H1
     have H' := Aside0.mk H
     clear H
     try go_wp2
     replace HB := Aside0.mk (below_drew1 HB.out)
     have p214 : 0 ≤ (0 : Int) := (by omega)
     have q214 : 0 < (l1.length : Int) := od (by assumption)
     obtain ⟨ad214, e214, hx214_0⟩ := Kd.at_int HR1.out 0 p214 q214
     have hw214_0 := hx214_0
     (try rw [show ((0 : Int)).toNat = 0 from rfl] at hw214_0)
     (try rw [show 0 * 1 = 0 from rfl] at hw214_0)
     (try rw [Addr.add_zero'] at hw214_0)
     cases e214
     have qi214 : (0 < l1.length) = True := eq_true (by omega)
     (try rw [show ((0 : Int)).toNat = 0 from rfl] at hx214_0)
     (try rw [Addr.add_zero'] at hx214_0)
     replace hx214_0 := (HB.out.cell (bl w _ hx214_0)).trans hx214_0
     replace p214 := eq_true p214
     replace q214 := eq_true q214
     have p215 : 0 ≤ (x6_1 : Int) := od (by assumption)
     have q215 : x6_1 < (l1.length : Int) := od (by assumption)
     obtain ⟨ad215, e215, hx215_0⟩ := Kd.at_int HR1.out x6_1 p215 q215
     have hw215_0 := hx215_0
     obtain rfl : ad214 = ad215 := (by injection e215)
     replace hx215_0 := (HB.out.cell (bl w _ hx215_0)).trans hx215_0
     replace p215 := eq_true p215
     replace q215 := eq_true q215
     refine start_ (n := 10) (S := fun w' => w'.cell? ad214 = some (.int .i64 (rd l1 0)) ∧ w'.cell? (ad214.add (x6_1).toNat) = some (.int .i64 (rd l1 x6_1))) (ds := []) (bv 10 0) (by kernel_rfl) rfl rfl ⟨((HB.out.cell (bl w _ hw214_0)).trans hw214_0), ((HB.out.cell (bl w _ hw215_0)).trans hw215_0)⟩ (fun hHeld => ?_); refine with_tabW spec_l20Search.tab6 spec_l20Search.bits6 (fun HT_ HW_ => ?_)
     generalize wr.drew = w50 at HB hx214_0 hx215_0 hHeld ⊢
     refine pv_ 10 0 20 1 rfl rfl HT_ ?_; refine pv_ 10 1 21 3 rfl rfl HT_ ?_; refine pv_ 10 2 22 7 rfl rfl HT_ ?_; refine pv_ 10 4 24 23 rfl rfl HT_ ?_; refine pv_ 10 5 25 55 rfl rfl HT_ ?_; refine pv_ 10 6 26 119 rfl rfl HT_ ?_
     refine tv_ 10 3 23 127 rfl rfl HT_ HW_ hHeld (by rintro w' ⟨s0, s1⟩; go_simp; with_reducible rfl) ?_
     refine tv_ 10 7 27 255 rfl rfl HT_ HW_ hHeld (by rintro w' ⟨s0, s1⟩; go_simp; with_reducible rfl) ?_
     refine one_ (i := 8) (N := some 28) (bv 10 511) rfl rfl (one_of HT_.out (by kernel_rfl)) (by decide) (fun K hK => ?_)
     refine goes_ Try.func95 (by kernel_rfl) rfl #[.slice A0 l0.length c0, .int .i64 (rd l1 0), .int .i64 (rd l1 x6_1)] (by rfl) rfl rfl (by (try simp only [Y1, Y2, Y3]); first | done | rfl | (simp only [Y4, Y5]; rfl)) ?_
     with_reducible refine (spec_MayMeet.calls k1 _ _ l0 (rd l1 0) (rd l1 x6_1) false _ ?side1 ?side2 A9.out).mono ?_
     (case side1 => repeat (first | exact (Kd.C_below HR0.out HB.out) | (with_reducible first | refine cA ?_ _ | refine cN ?_ _ | refine cD ?_)))
     (case side2 => exact HC0.out)
     rintro e w51 ⟨rfl, hb⟩
     refine ⟨_, rfl, ?_⟩
     replace HB := Aside0.mk (below_step (by repeat (first | (with_reducible first | exact HB.out | apply bA | apply bN | apply bD) | exact HB.out)) hb)
     (try clear hb)
     (try clear hb2)
     (try clear hk)
     (try clear hi)
     refine hK.out _ _ ⟨((HB.out.cell (bl w _ hw214_0)).trans hw214_0), ((HB.out.cell (bl w _ hw215_0)).trans hw215_0)⟩ (fun hHeld => ?_)
     clear hK K
     refine nm_ 28 ?_
     refine pv_ 10 9 29 1023 rfl rfl HT_ ?_
     refine done_ (done_of HT_.out (by kernel_rfl)) ?_
     try go_wp2
     go_roundg k1
     case measure => have := HK1.out; omega
     case rel => exact ⟨(wrap64 (x6_1 + 1)), (by first | rfl | (simp; done) | (simp [*]; done)), H', ⟨by have := HK1.out; omega⟩, ⟨by repeat (first | (with_reducible first | exact HB.out | apply bA | apply bN | apply bD) | exact HB.out)⟩⟩
    subst c10
    have H1 : ((some (([] : List Int) : List Int)).bind fun y217 => (if 1 ≤ x6_1 then (if x6_1 ≤ (l1.length : Int) then (if y217.length + ((l1.take (x6_1 : Int).toNat).drop 1).length < 17592186044416 then ((some (y217 ++ ((l1.take (x6_1 : Int).toNat).drop 1) : List Int)).bind fun y221 => (if 0 ≤ (wrap64 (x6_1 + 1)) then (if (wrap64 (x6_1 + 1)) ≤ (l1.length : Int) then (if y221.length + (l1.drop ((wrap64 (x6_1 + 1)) : Int).toNat).length < 17592186044416 then ((spec_l20Search.f k1 l0 (y221 ++ (l1.drop ((wrap64 (x6_1 + 1)) : Int).toNat))).bind fun bt228 => (if bt228.2 = true then ((spec_SideFor.f k1 l0 (rd l1 0) (rd l1 x6_1)).bind fun bt234 => ((some (([(⟨bt234.1, bt234.2⟩ : S48)] : List (S48)) : List (S48))).bind fun y236 => (if y236.length + bt228.1.length < 8796093022208 then (some ((y236 ++ bt228.1), true)) else (none)))) else (spec_l20Search.l0 k1 l0 l1 (wrap64 (x6_1 + 1))))) else (none)) else (none)) else (none))) else (none)) else (none)) else (none))) = some (r1, r2) := by rw [if_pos rfl] at H; exact H
    clear H
    have H := H1
    clear H1
    obtain ⟨y217, hy217⟩ : ∃ y_ : List Int, y_ = (([] : List Int)) := ⟨_, rfl⟩
    replace H : (if 1 ≤ x6_1 then (if x6_1 ≤ (l1.length : Int) then (if y217.length + ((l1.take (x6_1 : Int).toNat).drop 1).length < 17592186044416 then ((some (y217 ++ ((l1.take (x6_1 : Int).toNat).drop 1) : List Int)).bind fun y221 => (if 0 ≤ (wrap64 (x6_1 + 1)) then (if (wrap64 (x6_1 + 1)) ≤ (l1.length : Int) then (if y221.length + (l1.drop ((wrap64 (x6_1 + 1)) : Int).toNat).length < 17592186044416 then ((spec_l20Search.f k1 l0 (y221 ++ (l1.drop ((wrap64 (x6_1 + 1)) : Int).toNat))).bind fun bt228 => (if bt228.2 = true then ((spec_SideFor.f k1 l0 (rd l1 0) (rd l1 x6_1)).bind fun bt234 => ((some (([(⟨bt234.1, bt234.2⟩ : S48)] : List (S48)) : List (S48))).bind fun y236 => (if y236.length + bt228.1.length < 8796093022208 then (some ((y236 ++ bt228.1), true)) else (none)))) else (spec_l20Search.l0 k1 l0 l1 (wrap64 (x6_1 + 1))))) else (none)) else (none)) else (none))) else (none)) else (none)) else (none)) = some (r1, r2) := by first | (rw [hy217]; with_reducible exact H) | (have H2_ := (Option.bind_some _ _).symm.trans H; rw [hy217]; with_reducible exact H2_) | (have H2_ := (Option.bind_some _ _).symm.trans H; with_reducible exact H2_) | with_reducible exact H | (rw [hy217]; exact H) | exact H
    have Ny217 := Aside0.mk hy217
    clear hy217
    by_cases c11 : 1 ≤ x6_1
    rotate_left
    ·
     rw [if_neg c11] at H
     exact absurd H (by simp)
    rw [if_pos c11] at H
    have c11b0 := eq_true c11
    have c11b1 : decide (1 ≤ x6_1) = true := decide_eq_true c11
    clear c11
    by_cases c12 : x6_1 ≤ (l1.length : Int)
    rotate_left
    ·
     rw [if_neg c12] at H
     exact absurd H (by simp)
    rw [if_pos c12] at H
    have c12b0 := eq_true c12
    have c12b1 : decide (x6_1 ≤ (l1.length : Int)) = true := decide_eq_true c12
    clear c12
    by_cases c13 : y217.length + ((l1.take (x6_1 : Int).toNat).drop 1).length < 17592186044416
    rotate_left
    ·
     rw [if_neg c13] at H
     exact absurd H (by simp)
    rw [if_pos c13] at H
    have LMc13 := Aside0.mk c13
    clear c13
    obtain ⟨y221, hy221⟩ : ∃ y_ : List Int, y_ = (y217 ++ ((l1.take (x6_1 : Int).toNat).drop 1)) := ⟨_, rfl⟩
    replace H : (if 0 ≤ (wrap64 (x6_1 + 1)) then (if (wrap64 (x6_1 + 1)) ≤ (l1.length : Int) then (if y221.length + (l1.drop ((wrap64 (x6_1 + 1)) : Int).toNat).length < 17592186044416 then ((spec_l20Search.f k1 l0 (y221 ++ (l1.drop ((wrap64 (x6_1 + 1)) : Int).toNat))).bind fun bt228 => (if bt228.2 = true then ((spec_SideFor.f k1 l0 (rd l1 0) (rd l1 x6_1)).bind fun bt234 => ((some (([(⟨bt234.1, bt234.2⟩ : S48)] : List (S48)) : List (S48))).bind fun y236 => (if y236.length + bt228.1.length < 8796093022208 then (some ((y236 ++ bt228.1), true)) else (none)))) else (spec_l20Search.l0 k1 l0 l1 (wrap64 (x6_1 + 1))))) else (none)) else (none)) else (none)) = some (r1, r2) := by first | (rw [hy221]; with_reducible exact H) | (have H2_ := (Option.bind_some _ _).symm.trans H; rw [hy221]; with_reducible exact H2_) | (have H2_ := (Option.bind_some _ _).symm.trans H; with_reducible exact H2_) | with_reducible exact H | (rw [hy221]; exact H) | exact H
    have Ny221 := Aside0.mk hy221
    clear hy221
    obtain ⟨ji14, hji14⟩ : ∃ j_ : Int, (wrap64 (x6_1 + 1)) = j_ := ⟨_, rfl⟩
    replace H : (if 0 ≤ (ji14) then (if (ji14) ≤ (l1.length : Int) then (if y221.length + (l1.drop ((ji14) : Int).toNat).length < 17592186044416 then ((spec_l20Search.f k1 l0 (y221 ++ (l1.drop ((ji14) : Int).toNat))).bind fun bt228 => (if bt228.2 = true then ((spec_SideFor.f k1 l0 (rd l1 0) (rd l1 x6_1)).bind fun bt234 => ((some (([(⟨bt234.1, bt234.2⟩ : S48)] : List (S48)) : List (S48))).bind fun y236 => (if y236.length + bt228.1.length < 8796093022208 then (some ((y236 ++ bt228.1), true)) else (none)))) else (spec_l20Search.l0 k1 l0 l1 ji14))) else (none)) else (none)) else (none)) = some (r1, r2) := by first | (rw [hji14] at H; exact H) | (simp only [hji14] at H ⊢; exact H)
    (try rw [hji14] at A9)
    have hji14w : (IntKind.i64.wrap (x6_1 + 1)) = ji14 := (i64_w _).trans hji14
    by_cases c15 : 0 ≤ (ji14)
    rotate_left
    ·
     rw [if_neg c15] at H
     exact absurd H (by simp)
    rw [if_pos c15] at H
    have c15b0 := eq_true c15
    have c15b1 : decide (0 ≤ (ji14)) = true := decide_eq_true c15
    clear c15
    by_cases c16 : (ji14) ≤ (l1.length : Int)
    rotate_left
    ·
     rw [if_neg c16] at H
     exact absurd H (by simp)
    rw [if_pos c16] at H
    have c16b0 := eq_true c16
    have c16b1 : decide ((ji14) ≤ (l1.length : Int)) = true := decide_eq_true c16
    clear c16
    by_cases c17 : y221.length + (l1.drop ((ji14) : Int).toNat).length < 17592186044416
    rotate_left
    ·
     rw [if_neg c17] at H
     exact absurd H (by simp)
    rw [if_pos c17] at H
    have LMc17 := Aside0.mk c17
    clear c17
    obtain ⟨y225, hy225⟩ : ∃ y_ : List Int, y_ = (y221 ++ (l1.drop ((ji14) : Int).toNat)) := ⟨_, rfl⟩
    replace H : ((spec_l20Search.f k1 l0 y225).bind fun bt228 => (if bt228.2 = true then ((spec_SideFor.f k1 l0 (rd l1 0) (rd l1 x6_1)).bind fun bt234 => ((some (([(⟨bt234.1, bt234.2⟩ : S48)] : List (S48)) : List (S48))).bind fun y236 => (if y236.length + bt228.1.length < 8796093022208 then (some ((y236 ++ bt228.1), true)) else (none)))) else (spec_l20Search.l0 k1 l0 l1 ji14))) = some (r1, r2) := by first | (rw [hy225]; with_reducible exact H) | (have H2_ := (Option.bind_some _ _).symm.trans H; rw [hy225]; with_reducible exact H2_) | (have H2_ := (Option.bind_some _ _).symm.trans H; with_reducible exact H2_) | with_reducible exact H | (rw [hy225]; exact H) | exact H
    have Ny225 := Aside0.mk hy225
    clear hy225
    replace H := Option.bind_eq_some_iff.mp H
    obtain ⟨⟨t228, t229⟩, A180, H⟩ := H
    replace H : (if t229 = true then ((spec_SideFor.f k1 l0 (rd l1 0) (rd l1 x6_1)).bind fun bt234 => ((some (([(⟨bt234.1, bt234.2⟩ : S48)] : List (S48)) : List (S48))).bind fun y236 => (if y236.length + t228.length < 8796093022208 then (some ((y236 ++ t228), true)) else (none)))) else (spec_l20Search.l0 k1 l0 l1 ji14)) = some (r1, r2) := H
    have A18 := Aside0.mk A180
    clear A180
    by_cases c19 : t229 = true
    rotate_left
    ·
     replace c19 := Bool.eq_false_iff.mpr c19
     subst c19
     have H1 : (spec_l20Search.l0 k1 l0 l1 ji14) = some (r1, r2) := by rw [if_neg (show ¬ (false = true) by decide)] at H; exact H
     clear H
     have H := H1
     clear H1
     have H' := Aside0.mk H
     clear H
     try go_wp2
     replace HB := Aside0.mk (below_drew1 HB.out)
     have p214 : 0 ≤ (0 : Int) := (by omega)
     have q214 : 0 < (l1.length : Int) := od (by assumption)
     obtain ⟨ad214, e214, hx214_0⟩ := Kd.at_int HR1.out 0 p214 q214
     have hw214_0 := hx214_0
     (try rw [show ((0 : Int)).toNat = 0 from rfl] at hw214_0)
     (try rw [show 0 * 1 = 0 from rfl] at hw214_0)
     (try rw [Addr.add_zero'] at hw214_0)
     cases e214
     have qi214 : (0 < l1.length) = True := eq_true (by omega)
     (try rw [show ((0 : Int)).toNat = 0 from rfl] at hx214_0)
     (try rw [Addr.add_zero'] at hx214_0)
     replace hx214_0 := (HB.out.cell (bl w _ hx214_0)).trans hx214_0
     replace p214 := eq_true p214
     replace q214 := eq_true q214
     have p215 : 0 ≤ (x6_1 : Int) := od (by assumption)
     have q215 : x6_1 < (l1.length : Int) := od (by assumption)
     obtain ⟨ad215, e215, hx215_0⟩ := Kd.at_int HR1.out x6_1 p215 q215
     have hw215_0 := hx215_0
     obtain rfl : ad214 = ad215 := (by injection e215)
     replace hx215_0 := (HB.out.cell (bl w _ hx215_0)).trans hx215_0
     replace p215 := eq_true p215
     replace q215 := eq_true q215
     refine start_ (n := 10) (S := fun w' => w'.cell? ad214 = some (.int .i64 (rd l1 0)) ∧ w'.cell? (ad214.add (x6_1).toNat) = some (.int .i64 (rd l1 x6_1))) (ds := []) (bv 10 0) (by kernel_rfl) rfl rfl ⟨((HB.out.cell (bl w _ hw214_0)).trans hw214_0), ((HB.out.cell (bl w _ hw215_0)).trans hw215_0)⟩ (fun hHeld => ?_); refine with_tabW spec_l20Search.tab6 spec_l20Search.bits6 (fun HT_ HW_ => ?_)
     generalize wr.drew = w39 at HB hx214_0 hx215_0 hHeld ⊢
     refine pv_ 10 0 20 1 rfl rfl HT_ ?_; refine pv_ 10 1 21 3 rfl rfl HT_ ?_; refine pv_ 10 2 22 7 rfl rfl HT_ ?_; refine pv_ 10 4 24 23 rfl rfl HT_ ?_; refine pv_ 10 5 25 55 rfl rfl HT_ ?_; refine pv_ 10 6 26 119 rfl rfl HT_ ?_
     refine tv_ 10 3 23 127 rfl rfl HT_ HW_ hHeld (by rintro w' ⟨s0, s1⟩; go_simp; with_reducible rfl) ?_
     refine tv_ 10 7 27 255 rfl rfl HT_ HW_ hHeld (by rintro w' ⟨s0, s1⟩; go_simp; with_reducible rfl) ?_
     refine one_ (i := 8) (N := some 28) (bv 10 511) rfl rfl (one_of HT_.out (by kernel_rfl)) (by decide) (fun K hK => ?_)
     refine goes_ Try.func95 (by kernel_rfl) rfl #[.slice A0 l0.length c0, .int .i64 (rd l1 0), .int .i64 (rd l1 x6_1)] (by rfl) rfl rfl (by (try simp only [Y1, Y2, Y3]); first | done | rfl | (simp only [Y4, Y5]; rfl)) ?_
     with_reducible refine (spec_MayMeet.calls k1 _ _ l0 (rd l1 0) (rd l1 x6_1) true _ ?side1 ?side2 A9.out).mono ?_
     (case side1 => repeat (first | exact (Kd.C_below HR0.out HB.out) | (with_reducible first | refine cA ?_ _ | refine cN ?_ _ | refine cD ?_)))
     (case side2 => exact HC0.out)
     rintro e w40 ⟨rfl, hb⟩
     refine ⟨_, rfl, ?_⟩
     replace HB := Aside0.mk (below_step (by repeat (first | (with_reducible first | exact HB.out | apply bA | apply bN | apply bD) | exact HB.out)) hb)
     (try clear hb)
     (try clear hb2)
     (try clear hk)
     (try clear hi)
     refine hK.out _ _ ⟨((HB.out.cell (bl w _ hw214_0)).trans hw214_0), ((HB.out.cell (bl w _ hw215_0)).trans hw215_0)⟩ (fun hHeld => ?_)
     clear hK K
     refine nm_ 28 ?_
     refine pv_ 10 9 29 1023 rfl rfl HT_ ?_
     refine done_ (done_of HT_.out (by kernel_rfl)) ?_
     try go_wp2
     replace HB := Aside0.mk (below_drew1 HB.out)
     obtain ⟨i042, hi042, _, hsz42, _⟩ := info_parts info3
     obtain ⟨A42, hcut42, hA42, hC42⟩ := print_mid_of (P := Try.prog) (Value.int .i64) 0 29 3 .i64 .i64 Try.underlying29 hi042 hsz42 (some ad214) c1 l1 1 x6_1 (by omega) (by first | omega | exact od (by assumption)) (od (by assumption)) HC1.out
     have HR220 := Aside0.mk (Kd.C_of_reads (h1 := fun _ => rfl) (hA42 _ (Kd.reads_of_C HR1.out)))
     have HC220 := Aside0.mk hC42
     clear hA42 hC42 hi042 hsz42
     obtain ⟨i043, hi043, _, hsz43, _⟩ := info_parts info3
     obtain ⟨A43, hcut43, hA43, hC43⟩ := print_drop_of (P := Try.prog) (Value.int .i64) 0 29 3 .i64 Try.underlying29 hi043 hsz43 (some ad214) c1 l1 (ji14) (od (by assumption)) (od (by assumption)) HC1.out
     have HR224 := Aside0.mk (Kd.C_of_reads (h1 := fun _ => rfl) (hA43 _ (Kd.reads_of_C HR1.out)))
     have HC224 := Aside0.mk hC43
     clear hA43 hC43 hi043 hsz43
     refine start_ (n := 11) (S := fun w' => True) (ds := []) (bv 11 0) (by kernel_rfl) rfl rfl trivial (fun hHeld => ?_); refine with_tabW spec_l20Search.tab7 spec_l20Search.bits7 (fun HT_ HW_ => ?_)
     generalize w40.drew = w41 at HB HR220 HR224 hHeld ⊢
     refine pv_ 11 1 31 2 rfl rfl HT_ ?_; refine pv_ 11 2 32 6 rfl rfl HT_ ?_; refine pv_ 11 3 33 14 rfl rfl HT_ ?_; refine pv_ 11 5 35 46 rfl rfl HT_ ?_; refine pv_ 11 6 36 110 rfl rfl HT_ ?_; refine pv_ 11 7 37 238 rfl rfl HT_ ?_; refine pv_ 11 8 38 494 rfl rfl HT_ ?_
     refine one_ (i := 0) (N := some 30) (bv 11 495) rfl rfl (one_of HT_.out (by kernel_rfl)) (by decide) (fun K hK => ?_)
     refine Kd.R_lit_step (Kd.int .i64) _ 3 ?hg (N := 30) ?hd (xs := ([] : List Int)) (inner := []) (ok := fun _ => True) (okp := fun _ => True) ?hr ?hp (fun _ hk => hk) trivial (Below.refl _ _) (Nat.le_refl _) (by simp) ?_; (case hd => rfl); (case hg => rfl); (case hr => first | (go_simp; done) | (go_simp; rfl)); (case hp => exact (Reps.none _ _))
     intro v218 w44 ho45 hb hg_ hnew_
     clear hg_ hnew_
     (first | rw [← Ny217.out] at ho45 | (simp only [Int.reduceToNat] at ho45; rw [← Ny217.out] at ho45))
     replace HO219 := Aside0.mk (Kd.R_lower ho45 (below_size (by repeat (first | (with_reducible first | exact HB.out | apply bA | apply bN | apply bD) | exact HB.out))))
     replace HB := Aside0.mk (below_step (by repeat (first | (with_reducible first | exact HB.out | apply bA | apply bN | apply bD) | exact HB.out)) hb)
     clear hb ho45
     refine hK.out _ _ trivial (fun hHeld => ?_)
     clear hK K
     refine nm_ 30 ?_
     refine one_ (i := 4) (N := some 34) (bv 11 511) rfl rfl (one_of HT_.out (by kernel_rfl)) (by decide) (fun K hK => ?_)
     refine Kd.R_append_rows_step (Kd.int .i64) (w0 := w) w.heap.size (by rfl) (.tmp 30) (.tmp 33) 29 3 (.int .i64 0) 8 rfl Try.underlying29 info3 rfl (by decide) (by omega) v218 y217 ((l1.take (x6_1 : Int).toNat).drop 1) _ _ _ (fun _ => True) (fun _ => False) rfl rfl ?aO ?aR (fun _ _ h => h) (fun _ h => h.elim) ?aF ?aB ?aS ?aL ?_
     (case aR => first | (rw [← show ((l1.take (x6_1 : Int).toNat).drop 1).length = (x6_1.toNat - 1) from (by rw [List.length_drop, List.length_take]; have h_ : (x6_1 : Int) ≤ (l1.length : Int) := od (by assumption); omega)]; repeat (first | exact (Kd.C_below HR220.out HB.out) | (with_reducible first | refine cA ?_ _ | refine cN ?_ _ | refine cD ?_))) | (repeat (first | exact (Kd.C_below HR220.out HB.out) | (with_reducible first | refine cA ?_ _ | refine cN ?_ _ | refine cD ?_))))
     (case aB => exact (by repeat (first | (with_reducible first | exact HB.out | apply bA | apply bN | apply bD) | exact HB.out)))
     (case aF => exact (fun _ _ => trivial))
     (case aO => exact (by (with_reducible repeat (first | apply rA | apply rN | apply rD)); exact HO219.out))
     (case aS => exact (below_size (by repeat (first | (with_reducible first | exact HB.out | apply bA | apply bN | apply bD) | exact HB.out))))
     (case aL => have := LMc13.out; have hlx_ := (show ((l1.take (x6_1 : Int).toNat).drop 1).length = (x6_1.toNat - 1) from (by rw [List.length_drop, List.length_take]; have h_ : (x6_1 : Int) ≤ (l1.length : Int) := od (by assumption); omega)); omega)
     intro v222 w46 ho hb hg hat
     rw [← Ny221.out] at ho
     replace HB := Aside0.mk (hb)
     replace HO223 := Aside0.mk (ho)
     clear HO219
     clear ho hb hg hat
     refine hK.out _ _ trivial (fun hHeld => ?_)
     clear hK K
     refine nm_ 34 ?_
     refine one_ (i := 9) (N := some 39) (bv 11 1023) rfl rfl (one_of HT_.out (by kernel_rfl)) (by decide) (fun K hK => ?_)
     refine Kd.R_append_rows_step (Kd.int .i64) (w0 := w) w.heap.size (by rfl) (.tmp 34) (.tmp 38) 29 3 (.int .i64 0) 8 rfl Try.underlying29 info3 rfl (by decide) (by omega) v222 y221 (l1.drop ((ji14) : Int).toNat) _ _ _ (fun _ => True) (fun _ => False) rfl rfl ?aO ?aR (fun _ _ h => h) (fun _ h => h.elim) ?aF ?aB ?aS ?aL ?_
     (case aR => first | (rw [← show (l1.drop ((ji14) : Int).toNat).length = (l1.length - (ji14).toNat) from List.length_drop]; repeat (first | exact (Kd.C_below HR224.out HB.out) | (with_reducible first | refine cA ?_ _ | refine cN ?_ _ | refine cD ?_))) | (repeat (first | exact (Kd.C_below HR224.out HB.out) | (with_reducible first | refine cA ?_ _ | refine cN ?_ _ | refine cD ?_))))
     (case aB => exact (by repeat (first | (with_reducible first | exact HB.out | apply bA | apply bN | apply bD) | exact HB.out)))
     (case aF => exact (fun _ _ => trivial))
     (case aO => exact (by (with_reducible repeat (first | apply rA | apply rN | apply rD)); exact HO223.out))
     (case aS => exact (below_size (by repeat (first | (with_reducible first | exact HB.out | apply bA | apply bN | apply bD) | exact HB.out))))
     (case aL => have := LMc17.out; have hlx_ := (show (l1.drop ((ji14) : Int).toNat).length = (l1.length - (ji14).toNat) from List.length_drop); omega)
     intro v226 w47 ho hb hg hat
     rw [← Ny225.out] at ho
     replace HB := Aside0.mk (hb)
     replace HO227 := Aside0.mk (ho)
     clear HO223
     clear ho hb hg hat
     refine hK.out _ _ trivial (fun hHeld => ?_)
     clear hK K
     refine nm_ 39 ?_
     refine pv_ 11 10 7 2047 rfl rfl HT_ ?_
     refine done_ (done_of HT_.out (by kernel_rfl)) ?_
     obtain ⟨Ao48, co48, eo48⟩ := Kd.R_slice HO227.out
     subst eo48
     try go_wp2_with (first | ((with_reducible refine gate_callee (f := 77) rfl ?_); refine goesL_ (some 43) rfl rfl Try.func77 (by kernel_rfl) rfl #[.slice A0 l0.length c0, .slice Ao48 y225.length co48] rfl (by (try simp only [Y1, Y2, Y3]); first | done | rfl | (simp only [Y4, Y5]; rfl)) ?_; (with_reducible refine (ih k1 (by have := HK1.out; omega) _ _ l0 _ _ y225 t228 false _ ?side1 ?side2 ?side3 ?side4 A18.out).mono ?_); (case side1 => repeat (first | exact (Kd.C_below HR0.out HB.out) | (with_reducible first | refine cA ?_ _ | refine cN ?_ _ | refine cD ?_))); (case side2 => exact HC0.out); (case side3 => repeat (first | exact (Kd.R_reads' HO227.out).2.2 | (with_reducible first | refine cA ?_ _ | refine cN ?_ _ | refine cD ?_))); (case side4 => exact (Kd.R_reads' HO227.out).2.1); rintro e w49 ⟨v230, rfl, ho0, hb⟩; refine ⟨_, rfl, ?_⟩; replace HO227 := Aside0.mk (Kd.R_below (by (with_reducible repeat (first | apply rA | apply rN | apply rD)); exact HO227.out) hb); replace HO231 := Aside0.mk (Kd.R_lower ho0 (below_size (by repeat (first | (with_reducible first | exact HB.out | apply bA | apply bN | apply bD) | exact HB.out)))); replace HB := Aside0.mk (below_step (by repeat (first | (with_reducible first | exact HB.out | apply bA | apply bN | apply bD) | exact HB.out)) hb); (try clear hb); (try clear hb2); (try clear hk); (try clear hi); (try clear ho0)))
     go_roundg k1
     case measure => have := HK1.out; omega
     case rel => exact ⟨(ji14), (by first | rfl | (simp; done) | (simp only [← hji14] <;> (first | rfl | simp)) | (simp [*]; done)), H', ⟨by have := HK1.out; omega⟩, ⟨by repeat (first | (with_reducible first | exact HB.out | apply bA | apply bN | apply bD) | exact HB.out)⟩⟩
    subst c19
    have H1 : ((spec_SideFor.f k1 l0 (rd l1 0) (rd l1 x6_1)).bind fun bt234 => ((some (([(⟨bt234.1, bt234.2⟩ : S48)] : List (S48)) : List (S48))).bind fun y236 => (if y236.length + t228.length < 8796093022208 then (some ((y236 ++ t228), true)) else (none)))) = some (r1, r2) := by rw [if_pos rfl] at H; exact H
    clear H
    have H := H1
    clear H1
    replace H := Option.bind_eq_some_iff.mp H
    obtain ⟨⟨t234, t235⟩, A200, H⟩ := H
    replace H : ((some (([(⟨t234, t235⟩ : S48)] : List (S48)) : List (S48))).bind fun y236 => (if y236.length + t228.length < 8796093022208 then (some ((y236 ++ t228), true)) else (none))) = some (r1, r2) := H
    have A20 := Aside0.mk A200
    clear A200
    obtain ⟨y236, hy236⟩ : ∃ y_ : List (S48), y_ = (([(⟨t234, t235⟩ : S48)] : List (S48))) := ⟨_, rfl⟩
    replace H : (if y236.length + t228.length < 8796093022208 then (some ((y236 ++ t228), true)) else (none)) = some (r1, r2) := by first | (rw [hy236]; with_reducible exact H) | (have H2_ := (Option.bind_some _ _).symm.trans H; rw [hy236]; with_reducible exact H2_) | (have H2_ := (Option.bind_some _ _).symm.trans H; with_reducible exact H2_) | with_reducible exact H | (rw [hy236]; exact H) | exact H
    have Ny236 := Aside0.mk hy236
    clear hy236
    by_cases c21 : y236.length + t228.length < 8796093022208
    rotate_left
    ·
     rw [if_neg c21] at H
     exact absurd H (by simp)
    rw [if_pos c21] at H
    have LMc21 := Aside0.mk c21
    clear c21
    obtain ⟨y239, hy239⟩ : ∃ y_ : List (S48), y_ = (y236 ++ t228) := ⟨_, rfl⟩
    replace H : (some (y239, true)) = some (r1, r2) := by first | (rw [hy239]; with_reducible exact H) | (have H2_ := (Option.bind_some _ _).symm.trans H; rw [hy239]; with_reducible exact H2_) | (have H2_ := (Option.bind_some _ _).symm.trans H; with_reducible exact H2_) | with_reducible exact H | (rw [hy239]; exact H) | exact H
    have Ny239 := Aside0.mk hy239
    clear hy239
    simp only [Option.some.injEq, Prod.mk.injEq] at H
    obtain ⟨rfl, rfl⟩ := H
    try go_wp2
    replace HB := Aside0.mk (below_drew1 HB.out)
    have p214 : 0 ≤ (0 : Int) := (by omega)
    have q214 : 0 < (l1.length : Int) := od (by assumption)
    obtain ⟨ad214, e214, hx214_0⟩ := Kd.at_int HR1.out 0 p214 q214
    have hw214_0 := hx214_0
    (try rw [show ((0 : Int)).toNat = 0 from rfl] at hw214_0)
    (try rw [show 0 * 1 = 0 from rfl] at hw214_0)
    (try rw [Addr.add_zero'] at hw214_0)
    cases e214
    have qi214 : (0 < l1.length) = True := eq_true (by omega)
    (try rw [show ((0 : Int)).toNat = 0 from rfl] at hx214_0)
    (try rw [Addr.add_zero'] at hx214_0)
    replace hx214_0 := (HB.out.cell (bl w _ hx214_0)).trans hx214_0
    replace p214 := eq_true p214
    replace q214 := eq_true q214
    have p215 : 0 ≤ (x6_1 : Int) := od (by assumption)
    have q215 : x6_1 < (l1.length : Int) := od (by assumption)
    obtain ⟨ad215, e215, hx215_0⟩ := Kd.at_int HR1.out x6_1 p215 q215
    have hw215_0 := hx215_0
    obtain rfl : ad214 = ad215 := (by injection e215)
    replace hx215_0 := (HB.out.cell (bl w _ hx215_0)).trans hx215_0
    replace p215 := eq_true p215
    replace q215 := eq_true q215
    refine start_ (n := 10) (S := fun w' => w'.cell? ad214 = some (.int .i64 (rd l1 0)) ∧ w'.cell? (ad214.add (x6_1).toNat) = some (.int .i64 (rd l1 x6_1))) (ds := []) (bv 10 0) (by kernel_rfl) rfl rfl ⟨((HB.out.cell (bl w _ hw214_0)).trans hw214_0), ((HB.out.cell (bl w _ hw215_0)).trans hw215_0)⟩ (fun hHeld => ?_); refine with_tabW spec_l20Search.tab6 spec_l20Search.bits6 (fun HT_ HW_ => ?_)
    generalize wr.drew = w22 at HB hx214_0 hx215_0 hHeld ⊢
    refine pv_ 10 0 20 1 rfl rfl HT_ ?_; refine pv_ 10 1 21 3 rfl rfl HT_ ?_; refine pv_ 10 2 22 7 rfl rfl HT_ ?_; refine pv_ 10 4 24 23 rfl rfl HT_ ?_; refine pv_ 10 5 25 55 rfl rfl HT_ ?_; refine pv_ 10 6 26 119 rfl rfl HT_ ?_
    refine tv_ 10 3 23 127 rfl rfl HT_ HW_ hHeld (by rintro w' ⟨s0, s1⟩; go_simp; with_reducible rfl) ?_
    refine tv_ 10 7 27 255 rfl rfl HT_ HW_ hHeld (by rintro w' ⟨s0, s1⟩; go_simp; with_reducible rfl) ?_
    refine one_ (i := 8) (N := some 28) (bv 10 511) rfl rfl (one_of HT_.out (by kernel_rfl)) (by decide) (fun K hK => ?_)
    refine goes_ Try.func95 (by kernel_rfl) rfl #[.slice A0 l0.length c0, .int .i64 (rd l1 0), .int .i64 (rd l1 x6_1)] (by rfl) rfl rfl (by (try simp only [Y1, Y2, Y3]); first | done | rfl | (simp only [Y4, Y5]; rfl)) ?_
    with_reducible refine (spec_MayMeet.calls k1 _ _ l0 (rd l1 0) (rd l1 x6_1) true _ ?side1 ?side2 A9.out).mono ?_
    (case side1 => repeat (first | exact (Kd.C_below HR0.out HB.out) | (with_reducible first | refine cA ?_ _ | refine cN ?_ _ | refine cD ?_)))
    (case side2 => exact HC0.out)
    rintro e w23 ⟨rfl, hb⟩
    refine ⟨_, rfl, ?_⟩
    replace HB := Aside0.mk (below_step (by repeat (first | (with_reducible first | exact HB.out | apply bA | apply bN | apply bD) | exact HB.out)) hb)
    (try clear hb)
    (try clear hb2)
    (try clear hk)
    (try clear hi)
    refine hK.out _ _ ⟨((HB.out.cell (bl w _ hw214_0)).trans hw214_0), ((HB.out.cell (bl w _ hw215_0)).trans hw215_0)⟩ (fun hHeld => ?_)
    clear hK K
    refine nm_ 28 ?_
    refine pv_ 10 9 29 1023 rfl rfl HT_ ?_
    refine done_ (done_of HT_.out (by kernel_rfl)) ?_
    try go_wp2
    replace HB := Aside0.mk (below_drew1 HB.out)
    obtain ⟨i025, hi025, _, hsz25, _⟩ := info_parts info3
    obtain ⟨A25, hcut25, hA25, hC25⟩ := print_mid_of (P := Try.prog) (Value.int .i64) 0 29 3 .i64 .i64 Try.underlying29 hi025 hsz25 (some ad214) c1 l1 1 x6_1 (by omega) (by first | omega | exact od (by assumption)) (od (by assumption)) HC1.out
    have HR220 := Aside0.mk (Kd.C_of_reads (h1 := fun _ => rfl) (hA25 _ (Kd.reads_of_C HR1.out)))
    have HC220 := Aside0.mk hC25
    clear hA25 hC25 hi025 hsz25
    obtain ⟨i026, hi026, _, hsz26, _⟩ := info_parts info3
    obtain ⟨A26, hcut26, hA26, hC26⟩ := print_drop_of (P := Try.prog) (Value.int .i64) 0 29 3 .i64 Try.underlying29 hi026 hsz26 (some ad214) c1 l1 (ji14) (od (by assumption)) (od (by assumption)) HC1.out
    have HR224 := Aside0.mk (Kd.C_of_reads (h1 := fun _ => rfl) (hA26 _ (Kd.reads_of_C HR1.out)))
    have HC224 := Aside0.mk hC26
    clear hA26 hC26 hi026 hsz26
    refine start_ (n := 11) (S := fun w' => True) (ds := []) (bv 11 0) (by kernel_rfl) rfl rfl trivial (fun hHeld => ?_); refine with_tabW spec_l20Search.tab7 spec_l20Search.bits7 (fun HT_ HW_ => ?_)
    generalize w23.drew = w24 at HB HR220 HR224 hHeld ⊢
    refine pv_ 11 1 31 2 rfl rfl HT_ ?_; refine pv_ 11 2 32 6 rfl rfl HT_ ?_; refine pv_ 11 3 33 14 rfl rfl HT_ ?_; refine pv_ 11 5 35 46 rfl rfl HT_ ?_; refine pv_ 11 6 36 110 rfl rfl HT_ ?_; refine pv_ 11 7 37 238 rfl rfl HT_ ?_; refine pv_ 11 8 38 494 rfl rfl HT_ ?_
    refine one_ (i := 0) (N := some 30) (bv 11 495) rfl rfl (one_of HT_.out (by kernel_rfl)) (by decide) (fun K hK => ?_)
    refine Kd.R_lit_step (Kd.int .i64) _ 3 ?hg (N := 30) ?hd (xs := ([] : List Int)) (inner := []) (ok := fun _ => True) (okp := fun _ => True) ?hr ?hp (fun _ hk => hk) trivial (Below.refl _ _) (Nat.le_refl _) (by simp) ?_; (case hd => rfl); (case hg => rfl); (case hr => first | (go_simp; done) | (go_simp; rfl)); (case hp => exact (Reps.none _ _))
    intro v218 w27 ho28 hb hg_ hnew_
    clear hg_ hnew_
    (first | rw [← Ny217.out] at ho28 | (simp only [Int.reduceToNat] at ho28; rw [← Ny217.out] at ho28))
    replace HO219 := Aside0.mk (Kd.R_lower ho28 (below_size (by repeat (first | (with_reducible first | exact HB.out | apply bA | apply bN | apply bD) | exact HB.out))))
    replace HB := Aside0.mk (below_step (by repeat (first | (with_reducible first | exact HB.out | apply bA | apply bN | apply bD) | exact HB.out)) hb)
    clear hb ho28
    refine hK.out _ _ trivial (fun hHeld => ?_)
    clear hK K
    refine nm_ 30 ?_
    refine one_ (i := 4) (N := some 34) (bv 11 511) rfl rfl (one_of HT_.out (by kernel_rfl)) (by decide) (fun K hK => ?_)
    refine Kd.R_append_rows_step (Kd.int .i64) (w0 := w) w.heap.size (by rfl) (.tmp 30) (.tmp 33) 29 3 (.int .i64 0) 8 rfl Try.underlying29 info3 rfl (by decide) (by omega) v218 y217 ((l1.take (x6_1 : Int).toNat).drop 1) _ _ _ (fun _ => True) (fun _ => False) rfl rfl ?aO ?aR (fun _ _ h => h) (fun _ h => h.elim) ?aF ?aB ?aS ?aL ?_
    (case aR => first | (rw [← show ((l1.take (x6_1 : Int).toNat).drop 1).length = (x6_1.toNat - 1) from (by rw [List.length_drop, List.length_take]; have h_ : (x6_1 : Int) ≤ (l1.length : Int) := od (by assumption); omega)]; repeat (first | exact (Kd.C_below HR220.out HB.out) | (with_reducible first | refine cA ?_ _ | refine cN ?_ _ | refine cD ?_))) | (repeat (first | exact (Kd.C_below HR220.out HB.out) | (with_reducible first | refine cA ?_ _ | refine cN ?_ _ | refine cD ?_))))
    (case aB => exact (by repeat (first | (with_reducible first | exact HB.out | apply bA | apply bN | apply bD) | exact HB.out)))
    (case aF => exact (fun _ _ => trivial))
    (case aO => exact (by (with_reducible repeat (first | apply rA | apply rN | apply rD)); exact HO219.out))
    (case aS => exact (below_size (by repeat (first | (with_reducible first | exact HB.out | apply bA | apply bN | apply bD) | exact HB.out))))
    (case aL => have := LMc13.out; have hlx_ := (show ((l1.take (x6_1 : Int).toNat).drop 1).length = (x6_1.toNat - 1) from (by rw [List.length_drop, List.length_take]; have h_ : (x6_1 : Int) ≤ (l1.length : Int) := od (by assumption); omega)); omega)
    intro v222 w29 ho hb hg hat
    rw [← Ny221.out] at ho
    replace HB := Aside0.mk (hb)
    replace HO223 := Aside0.mk (ho)
    clear HO219
    clear ho hb hg hat
    refine hK.out _ _ trivial (fun hHeld => ?_)
    clear hK K
    refine nm_ 34 ?_
    refine one_ (i := 9) (N := some 39) (bv 11 1023) rfl rfl (one_of HT_.out (by kernel_rfl)) (by decide) (fun K hK => ?_)
    refine Kd.R_append_rows_step (Kd.int .i64) (w0 := w) w.heap.size (by rfl) (.tmp 34) (.tmp 38) 29 3 (.int .i64 0) 8 rfl Try.underlying29 info3 rfl (by decide) (by omega) v222 y221 (l1.drop ((ji14) : Int).toNat) _ _ _ (fun _ => True) (fun _ => False) rfl rfl ?aO ?aR (fun _ _ h => h) (fun _ h => h.elim) ?aF ?aB ?aS ?aL ?_
    (case aR => first | (rw [← show (l1.drop ((ji14) : Int).toNat).length = (l1.length - (ji14).toNat) from List.length_drop]; repeat (first | exact (Kd.C_below HR224.out HB.out) | (with_reducible first | refine cA ?_ _ | refine cN ?_ _ | refine cD ?_))) | (repeat (first | exact (Kd.C_below HR224.out HB.out) | (with_reducible first | refine cA ?_ _ | refine cN ?_ _ | refine cD ?_))))
    (case aB => exact (by repeat (first | (with_reducible first | exact HB.out | apply bA | apply bN | apply bD) | exact HB.out)))
    (case aF => exact (fun _ _ => trivial))
    (case aO => exact (by (with_reducible repeat (first | apply rA | apply rN | apply rD)); exact HO223.out))
    (case aS => exact (below_size (by repeat (first | (with_reducible first | exact HB.out | apply bA | apply bN | apply bD) | exact HB.out))))
    (case aL => have := LMc17.out; have hlx_ := (show (l1.drop ((ji14) : Int).toNat).length = (l1.length - (ji14).toNat) from List.length_drop); omega)
    intro v226 w30 ho hb hg hat
    rw [← Ny225.out] at ho
    replace HB := Aside0.mk (hb)
    replace HO227 := Aside0.mk (ho)
    clear HO223
    clear ho hb hg hat
    refine hK.out _ _ trivial (fun hHeld => ?_)
    clear hK K
    refine nm_ 39 ?_
    refine pv_ 11 10 7 2047 rfl rfl HT_ ?_
    refine done_ (done_of HT_.out (by kernel_rfl)) ?_
    obtain ⟨Ao31, co31, eo31⟩ := Kd.R_slice HO227.out
    subst eo31
    try go_wp2_with (first | ((with_reducible refine gate_callee (f := 77) rfl ?_); refine goesL_ (some 43) rfl rfl Try.func77 (by kernel_rfl) rfl #[.slice A0 l0.length c0, .slice Ao31 y225.length co31] rfl (by (try simp only [Y1, Y2, Y3]); first | done | rfl | (simp only [Y4, Y5]; rfl)) ?_; (with_reducible refine (ih k1 (by have := HK1.out; omega) _ _ l0 _ _ y225 t228 true _ ?side1 ?side2 ?side3 ?side4 A18.out).mono ?_); (case side1 => repeat (first | exact (Kd.C_below HR0.out HB.out) | (with_reducible first | refine cA ?_ _ | refine cN ?_ _ | refine cD ?_))); (case side2 => exact HC0.out); (case side3 => repeat (first | exact (Kd.R_reads' HO227.out).2.2 | (with_reducible first | refine cA ?_ _ | refine cN ?_ _ | refine cD ?_))); (case side4 => exact (Kd.R_reads' HO227.out).2.1); rintro e w32 ⟨v230, rfl, ho0, hb⟩; refine ⟨_, rfl, ?_⟩; replace HO227 := Aside0.mk (Kd.R_below (by (with_reducible repeat (first | apply rA | apply rN | apply rD)); exact HO227.out) hb); replace HO231 := Aside0.mk (Kd.R_lower ho0 (below_size (by repeat (first | (with_reducible first | exact HB.out | apply bA | apply bN | apply bD) | exact HB.out)))); replace HB := Aside0.mk (below_step (by repeat (first | (with_reducible first | exact HB.out | apply bA | apply bN | apply bD) | exact HB.out)) hb); (try clear hb); (try clear hb2); (try clear hk); (try clear hi); (try clear ho0)))
    replace HO227 := Aside0.mk (Kd.R_drew HO227.out)
    replace HO231 := Aside0.mk (Kd.R_drew HO231.out)
    replace HB := Aside0.mk (below_drew1 HB.out)
    have p232 : 0 ≤ (0 : Int) := (by omega)
    have q232 : 0 < (l1.length : Int) := od (by assumption)
    obtain ⟨ad232, e232, hx232_0⟩ := Kd.at_int HR1.out 0 p232 q232
    have hw232_0 := hx232_0
    (try rw [show ((0 : Int)).toNat = 0 from rfl] at hw232_0)
    (try rw [show 0 * 1 = 0 from rfl] at hw232_0)
    (try rw [Addr.add_zero'] at hw232_0)
    obtain rfl : ad214 = ad232 := (by injection e232)
    have qi232 : (0 < l1.length) = True := eq_true (by omega)
    (try rw [show ((0 : Int)).toNat = 0 from rfl] at hx232_0)
    (try rw [Addr.add_zero'] at hx232_0)
    replace hx232_0 := (HB.out.cell (bl w _ hx232_0)).trans hx232_0
    replace p232 := eq_true p232
    replace q232 := eq_true q232
    have p233 : 0 ≤ (x6_1 : Int) := od (by assumption)
    have q233 : x6_1 < (l1.length : Int) := od (by assumption)
    obtain ⟨ad233, e233, hx233_0⟩ := Kd.at_int HR1.out x6_1 p233 q233
    have hw233_0 := hx233_0
    obtain rfl : ad214 = ad233 := (by injection e233)
    replace hx233_0 := (HB.out.cell (bl w _ hx233_0)).trans hx233_0
    replace p233 := eq_true p233
    replace q233 := eq_true q233
    refine start_ (n := 14) (S := fun w' => w'.cell? ad214 = some (.int .i64 (rd l1 0)) ∧ w'.cell? (ad214.add (x6_1).toNat) = some (.int .i64 (rd l1 x6_1))) (ds := []) (bv 14 0) (by kernel_rfl) rfl rfl ⟨((HB.out.cell (bl w _ hw232_0)).trans hw232_0), ((HB.out.cell (bl w _ hw233_0)).trans hw233_0)⟩ (fun hHeld => ?_); refine with_tabW spec_l20Search.tab10 spec_l20Search.bits10 (fun HT_ HW_ => ?_)
    generalize w32.drew = w33 at HO227 HO231 HB hx232_0 hx233_0 hHeld ⊢
    refine pv_ 14 0 47 1 rfl rfl HT_ ?_; refine pv_ 14 1 48 3 rfl rfl HT_ ?_; refine pv_ 14 2 49 7 rfl rfl HT_ ?_; refine pv_ 14 4 51 23 rfl rfl HT_ ?_; refine pv_ 14 5 52 55 rfl rfl HT_ ?_; refine pv_ 14 6 53 119 rfl rfl HT_ ?_; refine pv_ 14 10 57 1143 rfl rfl HT_ ?_
    refine tv_ 14 3 50 1151 rfl rfl HT_ HW_ hHeld (by rintro w' ⟨s0, s1⟩; go_simp; with_reducible rfl) ?_
    refine tv_ 14 7 54 1279 rfl rfl HT_ HW_ hHeld (by rintro w' ⟨s0, s1⟩; go_simp; with_reducible rfl) ?_
    refine one_ (i := 8) (N := some 55) (bv 14 1535) rfl rfl (one_of HT_.out (by kernel_rfl)) (by decide) (fun K hK => ?_)
    refine goes_ Try.func96 (by kernel_rfl) rfl #[.slice A0 l0.length c0, .int .i64 (rd l1 0), .int .i64 (rd l1 x6_1)] (by rfl) rfl rfl (by (try simp only [Y1, Y2, Y3]); first | done | rfl | (simp only [Y4, Y5]; rfl)) ?_
    with_reducible refine (spec_SideFor.calls k1 _ _ l0 (rd l1 0) (rd l1 x6_1) t234 t235 _ ?side1 ?side2 A20.out).mono ?_
    (case side1 => repeat (first | exact (Kd.C_below HR0.out HB.out) | (with_reducible first | refine cA ?_ _ | refine cN ?_ _ | refine cD ?_)))
    (case side2 => exact HC0.out)
    rintro e w34 ⟨rfl, hb⟩
    refine ⟨_, rfl, ?_⟩
    replace HO227 := Aside0.mk (Kd.R_below (by (with_reducible repeat (first | apply rA | apply rN | apply rD)); exact HO227.out) hb)
    replace HO231 := Aside0.mk (Kd.R_below (by (with_reducible repeat (first | apply rA | apply rN | apply rD)); exact HO231.out) hb)
    replace HB := Aside0.mk (below_step (by repeat (first | (with_reducible first | exact HB.out | apply bA | apply bN | apply bD) | exact HB.out)) hb)
    (try clear hb)
    (try clear hb2)
    (try clear hk)
    (try clear hi)
    refine hK.out _ _ ⟨((HB.out.cell (bl w _ hw232_0)).trans hw232_0), ((HB.out.cell (bl w _ hw233_0)).trans hw233_0)⟩ (fun hHeld => ?_)
    clear hK K
    refine nm_ 55 ?_
    refine one_ (i := 9) (N := some 56) (bv 14 2047) rfl rfl (one_of HT_.out (by kernel_rfl)) (by decide) (fun K hK => ?_)
    refine Kd.R_lit_step k48 _ 48 ?hg (N := 56) ?hd (xs := ([(⟨t234, t235⟩ : S48)] : List (S48))) (inner := [.int .i64 t234, .int .i64 t235]) (ok := fun _ => True) (okp := fun _ => True) ?hr ?hp (fun _ hk => hk) trivial (Below.refl _ _) (Nat.le_refl _) (by simp) ?_; (case hd => rfl); (case hg => rfl); (case hr => first | (go_simp; done) | (go_simp; rfl)); (case hp => exact (Reps.c2 (show Kd.M k48 _ _ _ (⟨t234, t235⟩ : S48) [.int .i64 t234, .int .i64 t235] from (k48_mkM _ _ _ (⟨t234, t235⟩ : S48) )) (Reps.none _ _)))
    intro v237 w35 ho36 hb hg_ hnew_
    clear hg_ hnew_
    (first | rw [← Ny236.out] at ho36 | (simp only [Int.reduceToNat] at ho36; rw [← Ny236.out] at ho36))
    have n0_ := Aside0.mk (Kd.R_below (by (with_reducible repeat (first | apply rA | apply rN | apply rD)); exact HO227.out) hb)
    have n1_ := Aside0.mk (Kd.R_elder' (by (with_reducible repeat (first | apply rA | apply rN | apply rD)); exact HO231.out) (Kd.R_base ho36) hb)
    have n2_ := Aside0.mk (Kd.R_lower (Kd.R_new' ho36 (Kd.R_lt (by (with_reducible repeat (first | apply rA | apply rN | apply rD)); exact HO231.out))) (below_size (by repeat (first | (with_reducible first | exact HB.out | apply bA | apply bN | apply bD) | exact HB.out))))
    have n3_ := Aside0.mk (below_step (by repeat (first | (with_reducible first | exact HB.out | apply bA | apply bN | apply bD) | exact HB.out)) hb)
    clear HO227
    clear HO231
    clear HB
    have HO227 := n0_
    have HO231 := n1_
    have HO238 := n2_
    have HB := n3_
    clear n0_ n1_ n2_ n3_
    clear hb ho36
    obtain ⟨Ao38, co38, eo38⟩ := Kd.R_slice HO231.out
    (first | subst eo38 | (injection eo38 with f1_ f2_ f3_; have f4_ := f1_.symm; have f5_ := f3_.symm; clear f1_ f2_ f3_; subst f4_; subst f5_))
    refine hK.out _ _ ⟨((HB.out.cell (bl w _ hw232_0)).trans hw232_0), ((HB.out.cell (bl w _ hw233_0)).trans hw233_0)⟩ (fun hHeld => ?_)
    clear hK K
    refine nm_ 56 ?_
    refine one_ (i := 11) (N := some 58) (bv 14 4095) rfl rfl (one_of HT_.out (by kernel_rfl)) (by decide) (fun K hK => ?_)
    refine Kd.R_append_rows_step k48 (w0 := w) w.heap.size (by rfl) (.tmp 56) (.tmp 57) 56 48 (.agg #[(.int .i64 0), (.int .i64 0)]) 16 rfl Try.underlying56 info48 rfl (by decide) (by omega) v237 y236 t228 _ _ _ (fun k_ => some k_ ≠ (.slice Ao38 t228.length co38 : Value).ownBlock) (fun _ => False) rfl rfl ?aO ?aR (fun _ _ h => h) (fun _ h => h.elim) ?aF ?aB ?aS ?aL ?_
    (case aR => repeat (first | exact (Kd.R_reads' HO231.out).2.2 | (with_reducible first | refine cA ?_ _ | refine cN ?_ _ | refine cD ?_)))
    (case aB => exact (by repeat (first | (with_reducible first | exact HB.out | apply bA | apply bN | apply bD) | exact HB.out)))
    (case aF => exact (fun k_ hk => Kd.fresh' (Kd.R_lt (by (with_reducible repeat (first | apply rA | apply rN | apply rD)); exact HO231.out)) k_ hk))
    (case aO => exact (by (with_reducible repeat (first | apply rA | apply rN | apply rD)); exact Kd.R_mono HO238.out (fun _ hk => hk.2)))
    (case aS => exact (below_size (by repeat (first | (with_reducible first | exact HB.out | apply bA | apply bN | apply bD) | exact HB.out))))
    (case aL => have := LMc21.out; omega)
    intro v240 w37 ho hb hg hat
    rw [← Ny239.out] at ho
    replace HO227 := Aside0.mk (Kd.R_over' (by (with_reducible repeat (first | apply rA | apply rN | apply rD)); exact HO227.out) (Kd.R_typed (by (with_reducible repeat (first | apply rA | apply rN | apply rD)); exact HO238.out)) (by decide) hg)
    replace HO231 := Aside0.mk (Kd.R_after (ok := (fun _ => True)) (by (with_reducible repeat (first | apply rA | apply rN | apply rD)); exact HO231.out) hg hat)
    replace HB := Aside0.mk (hb)
    replace HO241 := Aside0.mk (ho)
    clear HO238
    clear ho hb hg hat
    refine hK.out _ _ ⟨((HB.out.cell (bl w _ hw232_0)).trans hw232_0), ((HB.out.cell (bl w _ hw233_0)).trans hw233_0)⟩ (fun hHeld => ?_)
    clear hK K
    refine nm_ 58 ?_
    refine pv_ 14 12 4 8191 rfl rfl HT_ ?_; refine pv_ 14 13 5 16383 rfl rfl HT_ ?_
    refine done_ (done_of HT_.out (by kernel_rfl)) ?_
    try go_wp2
    go_ret2
    exact ⟨_, by first | rfl | (simp [errW_none, errW_some] <;> rfl) | (simp only [← hji14]; first | rfl | (simp [errW_none, errW_some] <;> rfl)) | (simp [*, errW_none, errW_some] <;> rfl), by (with_reducible repeat (first | apply rA | apply rN | apply rD)); exact Kd.R_mono HO241.out (fun _ hk => trivial), by repeat (first | (with_reducible first | exact HB.out | apply bA | apply bN | apply bD) | exact HB.out)⟩
 rw [if_pos c3] at H
 have c3b0 : ((l1.length : Int) == 0) = true := beq_iff_eq.mpr c3
 have c3b1 : ((l1.length : Int) != 0) = false := bne_eq_false_iff_eq.mpr c3
 clear c3
 obtain ⟨y208, hy208⟩ : ∃ y_ : List (S48), y_ = (([] : List (S48))) := ⟨_, rfl⟩
 replace H : (some (y208, true)) = some (r1, r2) := by first | (rw [hy208]; with_reducible exact H) | (have H2_ := (Option.bind_some _ _).symm.trans H; rw [hy208]; with_reducible exact H2_) | (have H2_ := (Option.bind_some _ _).symm.trans H; with_reducible exact H2_) | with_reducible exact H | (rw [hy208]; exact H) | exact H
 have Ny208 := Aside0.mk hy208
 clear hy208
 simp only [Option.some.injEq, Prod.mk.injEq] at H
 obtain ⟨rfl, rfl⟩ := H
 go_enter Try.func77, Try.ntmps77
 go_wp2_with (first | ((with_reducible refine gate_dst (N := 13) rfl ?_); refine Kd.R_lit k48 _ 48 ?hg (N := 13) ?hd (xs := ([] : List (S48))) (inner := []) (ok := fun _ => True) (okp := fun _ => True) ?hr ?hp (fun _ hk => hk) trivial (Below.refl _ _) (Nat.le_refl _) (by simp) ?_; (case hd => rfl); (case hg => rfl); (case hr => first | (go_simp; done) | (go_simp; rfl)); (case hp => exact (Reps.none _ _)); intro v209 w4 ho5 hb hg_ hnew_; clear hg_ hnew_; (first | rw [← Ny208.out] at ho5 | (simp only [Int.reduceToNat] at ho5; rw [← Ny208.out] at ho5)); replace HO210 := Aside0.mk (Kd.R_lower ho5 (below_size (by repeat (first | (with_reducible first | exact HB.out | apply bA | apply bN | apply bD) | exact HB.out)))); replace HB := Aside0.mk (below_step (by repeat (first | (with_reducible first | exact HB.out | apply bA | apply bN | apply bD) | exact HB.out)) hb); clear hb ho5))
 go_ret2
 exact ⟨_, by first | rfl | (simp [*, errW_none, errW_some] <;> rfl), by (with_reducible repeat (first | apply rA | apply rN | apply rD)); exact HO210.out, by repeat (first | (with_reducible first | exact HB.out | apply bA | apply bN | apply bD) | exact HB.out)⟩
def spec_PairRound.j0 : Nat → List (S78) → Bool → Option ((List (S48)) × Bool)
  | 0, _, _ => none
  | k + 1, x0, x12 => if x12 = true then (some ((([] : List (S48))), false)) else ((spec_Standing.f k x0).bind fun t246 => ((spec_l20Search.f k x0 t246).bind fun bt249 => (some (bt249.1, bt249.2))))
def spec_PairRound.f (k : Nat) (l0 : List (S78)) : Option ((List (S48)) × Bool) := (spec_AreTeams.f k l0).bind fun t242 => (if t242 = true then (spec_PairRound.j0 k l0 (((l0.length : Int) % 2) == 1)) else (spec_PairRound.j0 k l0 true))
set_option maxHeartbeats 8000000 in
set_option maxRecDepth 100000 in
theorem spec_PairRound.calls (k : Nat) (A0 : Option Addr) (c0 : Nat) (l0 : List (S78)) (r1 : List (S48)) (r2 : Bool) (w : World) (hr0 : Kd.C k78 w A0 l0.length l0) (hc0 : l0.length ≤ c0) (h : spec_PairRound.f k l0 = some (r1, r2)) :
  Calls Try.prog 47 #[.slice A0 l0.length c0] w fun e w' => ∃ v0_ : Value, e = .returned (.tuple #[v0_, .bool r2]) ∧ Kd.R k48 48 w' w.heap.size (fun _ => True) v0_ r1 ∧ Below w.heap.size w w' := by
 have HR0 := Aside0.mk hr0
 have HC0 := Aside0.mk hc0
 clear hr0 hc0
 have HB := Aside0.mk (Below.refl w.heap.size w)
 have H : ((spec_AreTeams.f k l0).bind fun t242 => (if t242 = true then (spec_PairRound.j0 k l0 (((l0.length : Int) % 2) == 1)) else (spec_PairRound.j0 k l0 true))) = some (r1, r2) := h
 clear h
 have HC2 := Aside0.mk H
 clear H
 go_enter Try.func47, Try.ntmps47
 go_upto_region 1 with (fail)
 go_cut [12] (fun v12 wc => ∃ (kq : Nat) (x12_1 : Bool), v12 = .bool x12_1 ∧ Aside0 (spec_PairRound.j0 kq l0 x12_1 = some (r1, r2)) ∧ Aside0 (kq ≤ k) ∧ Aside0 (Below w.heap.size w wc))
 case first =>
  have H := HC2.out
  clear HC2
  replace H := Option.bind_eq_some_iff.mp H
  obtain ⟨t242, A30, H⟩ := H
  replace H : (if t242 = true then (spec_PairRound.j0 k l0 (((l0.length : Int) % 2) == 1)) else (spec_PairRound.j0 k l0 true)) = some (r1, r2) := H
  have A3 := Aside0.mk A30
  clear A30
  by_cases c4 : t242 = true
  ·
   subst c4
   have H1 : (spec_PairRound.j0 k l0 (((l0.length : Int) % 2) == 1)) = some (r1, r2) := by rw [if_pos rfl] at H; exact H
   clear H
   have H := H1
   clear H1
   have H' := Aside0.mk H
   clear H
   go_wp2_with (first | ((with_reducible refine gate_callee (f := 69) rfl ?_); refine goesL_ (some 5) rfl rfl Try.func69 (by kernel_rfl) rfl #[.slice A0 l0.length c0] rfl (by (try simp only [Y1, Y2, Y3]); first | done | rfl | (simp only [Y4, Y5]; rfl)) ?_; (with_reducible refine (spec_AreTeams.calls k _ _ l0 true _ ?side1 ?side2 A3.out).mono ?_); (case side1 => repeat (first | exact (Kd.C_below HR0.out HB.out) | (with_reducible first | refine cA ?_ _ | refine cN ?_ _ | refine cD ?_))); (case side2 => exact HC0.out); rintro e w5 ⟨rfl, hb⟩; refine ⟨_, rfl, ?_⟩; replace HB := Aside0.mk (below_step (by repeat (first | (with_reducible first | exact HB.out | apply bA | apply bN | apply bD) | exact HB.out)) hb); (try clear hb); (try clear hb2); (try clear hk); (try clear hi)))
   go_meet
   case rel => exact ⟨_, ((((l0.length : Int) % 2) == 1)), (by first | rfl | (simp; done) | (simp [*]; done)), H', ⟨by first | omega | exact Nat.le_refl _⟩, ⟨by repeat (first | (with_reducible first | exact HB.out | apply bA | apply bN | apply bD) | exact HB.out)⟩⟩
  ·
   replace c4 := Bool.eq_false_iff.mpr c4
   subst c4
   have H1 : (spec_PairRound.j0 k l0 true) = some (r1, r2) := by rw [if_neg (show ¬ (false = true) by decide)] at H; exact H
   clear H
   have H := H1
   clear H1
   have H' := Aside0.mk H
   clear H
   go_wp2_with (first | ((with_reducible refine gate_callee (f := 69) rfl ?_); refine goesL_ (some 5) rfl rfl Try.func69 (by kernel_rfl) rfl #[.slice A0 l0.length c0] rfl (by (try simp only [Y1, Y2, Y3]); first | done | rfl | (simp only [Y4, Y5]; rfl)) ?_; (with_reducible refine (spec_AreTeams.calls k _ _ l0 false _ ?side1 ?side2 A3.out).mono ?_); (case side1 => repeat (first | exact (Kd.C_below HR0.out HB.out) | (with_reducible first | refine cA ?_ _ | refine cN ?_ _ | refine cD ?_))); (case side2 => exact HC0.out); rintro e w6 ⟨rfl, hb⟩; refine ⟨_, rfl, ?_⟩; replace HB := Aside0.mk (below_step (by repeat (first | (with_reducible first | exact HB.out | apply bA | apply bN | apply bD) | exact HB.out)) hb); (try clear hb); (try clear hb2); (try clear hk); (try clear hi)))
   go_meet
   case rel => exact ⟨_, (true), (by first | rfl | (simp; done) | (simp [*]; done)), H', ⟨by first | omega | exact Nat.le_refl _⟩, ⟨by repeat (first | (with_reducible first | exact HB.out | apply bA | apply bN | apply bD) | exact HB.out)⟩⟩
 case rest =>
  clear HC2
  try clear p2
  try clear c4
  try clear c6
  obtain ⟨kq, x12_1, rfl, HA, HJ1, HB⟩ := hcut
  cases kq with
  | zero => exact absurd HA.out (by simp [spec_PairRound.j0])
  | succ kj1 =>
   have H := HA.out
   clear HA
   simp only [spec_PairRound.j0] at H
   by_cases c7 : x12_1 = true
   ·
    subst c7
    have H1 : (some ((([] : List (S48))), false)) = some (r1, r2) := by rw [if_pos rfl] at H; exact H
    clear H
    have H := H1
    clear H1
    obtain ⟨y243, hy243⟩ : ∃ y_ : List (S48), y_ = (([] : List (S48))) := ⟨_, rfl⟩
    replace H : (some (y243, false)) = some (r1, r2) := by first | (rw [hy243]; with_reducible exact H) | (have H2_ := (Option.bind_some _ _).symm.trans H; rw [hy243]; with_reducible exact H2_) | (have H2_ := (Option.bind_some _ _).symm.trans H; with_reducible exact H2_) | with_reducible exact H | (rw [hy243]; exact H) | exact H
    have Ny243 := Aside0.mk hy243
    clear hy243
    simp only [Option.some.injEq, Prod.mk.injEq] at H
    obtain ⟨rfl, rfl⟩ := H
    go_wp2_with (first | ((with_reducible refine gate_dst (N := 13) rfl ?_); (try (refine gate_guard (by rfl) ?_; dsimp only)); refine Kd.R_lit k48 _ 48 ?hg (N := 13) ?hd (xs := ([] : List (S48))) (inner := []) (ok := fun _ => True) (okp := fun _ => True) ?hr ?hp (fun _ hk => hk) trivial (Below.refl _ _) (Nat.le_refl _) (by simp) ?_; (case hd => rfl); (case hg => rfl); (case hr => first | (go_simp; done) | (go_simp; rfl)); (case hp => exact (Reps.none _ _)); intro v244 w8 ho9 hb hg_ hnew_; clear hg_ hnew_; (first | rw [← Ny243.out] at ho9 | (simp only [Int.reduceToNat] at ho9; rw [← Ny243.out] at ho9)); replace HO245 := Aside0.mk (Kd.R_lower ho9 (below_size (by repeat (first | (with_reducible first | exact HB.out | apply bA | apply bN | apply bD) | exact HB.out)))); replace HB := Aside0.mk (below_step (by repeat (first | (with_reducible first | exact HB.out | apply bA | apply bN | apply bD) | exact HB.out)) hb); clear hb ho9))
    go_ret2
    exact ⟨_, by first | rfl | (simp [*, errW_none, errW_some] <;> rfl), by (with_reducible repeat (first | apply rA | apply rN | apply rD)); exact HO245.out, by repeat (first | (with_reducible first | exact HB.out | apply bA | apply bN | apply bD) | exact HB.out)⟩
   ·
    replace c7 := Bool.eq_false_iff.mpr c7
    subst c7
    have H1 : ((spec_Standing.f kj1 l0).bind fun t246 => ((spec_l20Search.f kj1 l0 t246).bind fun bt249 => (some (bt249.1, bt249.2)))) = some (r1, r2) := by rw [if_neg (show ¬ (false = true) by decide)] at H; exact H
    clear H
    have H := H1
    clear H1
    replace H := Option.bind_eq_some_iff.mp H
    obtain ⟨t246, A100, H⟩ := H
    replace H : ((spec_l20Search.f kj1 l0 t246).bind fun bt249 => (some (bt249.1, bt249.2))) = some (r1, r2) := H
    have A10 := Aside0.mk A100
    clear A100
    replace H := Option.bind_eq_some_iff.mp H
    obtain ⟨⟨t249, t250⟩, A110, H⟩ := H
    replace H : (some (t249, t250)) = some (r1, r2) := H
    have A11 := Aside0.mk A110
    clear A110
    simp only [Option.some.injEq, Prod.mk.injEq] at H
    obtain ⟨rfl, rfl⟩ := H
    go_wp2_with (first | ((with_reducible refine gate_callee (f := 78) rfl ?_); refine goesL_ (some 16) rfl rfl Try.func78 (by kernel_rfl) rfl #[.slice A0 l0.length c0] rfl (by (try simp only [Y1, Y2, Y3]); first | done | rfl | (simp only [Y4, Y5]; rfl)) ?_; (with_reducible refine (spec_Standing.calls kj1 _ _ l0 t246 _ ?side1 ?side2 A10.out).mono ?_); (case side1 => repeat (first | exact (Kd.C_below HR0.out HB.out) | (with_reducible first | refine cA ?_ _ | refine cN ?_ _ | refine cD ?_))); (case side2 => exact HC0.out); rintro e w12 ⟨v247, rfl, ho0, hb⟩; refine ⟨_, rfl, ?_⟩; replace HO248 := Aside0.mk (Kd.R_lower ho0 (below_size (by repeat (first | (with_reducible first | exact HB.out | apply bA | apply bN | apply bD) | exact HB.out)))); replace HB := Aside0.mk (below_step (by repeat (first | (with_reducible first | exact HB.out | apply bA | apply bN | apply bD) | exact HB.out)) hb); (try clear hb); (try clear hb2); (try clear hk); (try clear hi); (try clear ho0); obtain ⟨Ao13, co13, eo13⟩ := Kd.R_slice HO248.out; subst eo13) | ((with_reducible refine gate_callee (f := 77) rfl ?_); refine goesL_ (some 17) rfl rfl Try.func77 (by kernel_rfl) rfl #[.slice A0 l0.length c0, .slice Ao13 t246.length co13] rfl (by (try simp only [Y1, Y2, Y3]); first | done | rfl | (simp only [Y4, Y5]; rfl)) ?_; (with_reducible refine (spec_l20Search.calls kj1 _ _ l0 _ _ t246 t249 t250 _ ?side1 ?side2 ?side3 ?side4 A11.out).mono ?_); (case side1 => repeat (first | exact (Kd.C_below HR0.out HB.out) | (with_reducible first | refine cA ?_ _ | refine cN ?_ _ | refine cD ?_))); (case side2 => exact HC0.out); (case side3 => repeat (first | exact (Kd.R_reads' HO248.out).2.2 | (with_reducible first | refine cA ?_ _ | refine cN ?_ _ | refine cD ?_))); (case side4 => exact (Kd.R_reads' HO248.out).2.1); rintro e w14 ⟨v251, rfl, ho0, hb⟩; refine ⟨_, rfl, ?_⟩; replace HO248 := Aside0.mk (Kd.R_below (by (with_reducible repeat (first | apply rA | apply rN | apply rD)); exact HO248.out) hb); replace HO252 := Aside0.mk (Kd.R_lower ho0 (below_size (by repeat (first | (with_reducible first | exact HB.out | apply bA | apply bN | apply bD) | exact HB.out)))); replace HB := Aside0.mk (below_step (by repeat (first | (with_reducible first | exact HB.out | apply bA | apply bN | apply bD) | exact HB.out)) hb); (try clear hb); (try clear hb2); (try clear hk); (try clear hi); (try clear ho0)))
    go_ret2
    exact ⟨_, by first | rfl | (simp [*, errW_none, errW_some] <;> rfl), by (with_reducible repeat (first | apply rA | apply rN | apply rD)); exact HO252.out, by repeat (first | (with_reducible first | exact HB.out | apply bA | apply bN | apply bD) | exact HB.out)⟩
def spec_l1Byte.f (s0_0 : List Int) (s0_1 : Int) (s0_2 : Int) : Option (Int × Int × Int) := if s0_1 < (s0_0.length : Int) then (if 0 ≤ s0_1 then (some (Go.bits .and .i64 (wrap64 ((Go.bits .and .i64 (Go.bits .xor .i64 ((wrap64 ((wrap64 (s0_2 * 6364136223846793005)) + 1442695040888963407)) / 8589934592) ((wrap64 ((wrap64 (s0_2 * 6364136223846793005)) + 1442695040888963407)) / 140737488355328)) 255) + (wrap64 (rd s0_0 s0_1)))) 255, wrap64 (s0_1 + 1), wrap64 ((wrap64 (s0_2 * 6364136223846793005)) + 1442695040888963407))) else (none)) else (some (Go.bits .and .i64 (Go.bits .xor .i64 ((wrap64 ((wrap64 (s0_2 * 6364136223846793005)) + 1442695040888963407)) / 8589934592) ((wrap64 ((wrap64 (s0_2 * 6364136223846793005)) + 1442695040888963407)) / 140737488355328)) 255, s0_1, wrap64 ((wrap64 (s0_2 * 6364136223846793005)) + 1442695040888963407)))
set_option maxHeartbeats 8000000 in
set_option maxRecDepth 100000 in
theorem spec_l1Byte.calls (g : Nat) (s0_0 : List Int) (s0_1 : Int) (s0_2 : Int) (r1 : Int) (r2 : Int) (r3 : Int) (w0 w : World) (hI : IsS105 w0 w g s0_0 s0_1 s0_2) (hB : Below w0.heap.size w0 w) (h : spec_l1Byte.f s0_0 s0_1 s0_2 = some (r1, r2, r3)) :
  Calls Try.prog 118 #[.pointer (some ⟨g, 0, none⟩)] w fun e w' => e = .returned (.int .i64 r1) ∧ IsS105 w0 w' g s0_0 r2 r3 ∧ Below w0.heap.size w0 w' ∧ KeepBut w w' g none := by
 have HI0 := Aside0.mk hI
 have HK := Aside0.mk (KeepBut.refl w g none)
 have HL := Aside0.mk hB.size
 clear hI
 have HW0 := Aside0.mk hB.size
 have HB := Aside0.mk hB
 clear hB
 have H : (if s0_1 < (s0_0.length : Int) then (if 0 ≤ s0_1 then (some (Go.bits .and .i64 (wrap64 ((Go.bits .and .i64 (Go.bits .xor .i64 ((wrap64 ((wrap64 (s0_2 * 6364136223846793005)) + 1442695040888963407)) / 8589934592) ((wrap64 ((wrap64 (s0_2 * 6364136223846793005)) + 1442695040888963407)) / 140737488355328)) 255) + (wrap64 (rd s0_0 s0_1)))) 255, wrap64 (s0_1 + 1), wrap64 ((wrap64 (s0_2 * 6364136223846793005)) + 1442695040888963407))) else (none)) else (some (Go.bits .and .i64 (Go.bits .xor .i64 ((wrap64 ((wrap64 (s0_2 * 6364136223846793005)) + 1442695040888963407)) / 8589934592) ((wrap64 ((wrap64 (s0_2 * 6364136223846793005)) + 1442695040888963407)) / 140737488355328)) 255, s0_1, wrap64 ((wrap64 (s0_2 * 6364136223846793005)) + 1442695040888963407)))) = some (r1, r2, r3) := h
 clear h
 by_cases c2 : s0_1 < (s0_0.length : Int)
 ·
  rw [if_pos c2] at H
  have c2b0 : decide (s0_1 < (s0_0.length : Int)) = true := decide_eq_true c2
  clear c2
  by_cases c3 : 0 ≤ s0_1
  ·
   rw [if_pos c3] at H
   have c3b0 : decide (0 ≤ s0_1) = true := decide_eq_true c3
   clear c3
   simp only [Option.some.injEq, Prod.mk.injEq] at H
   obtain ⟨rfl, rfl, rfl⟩ := H
   obtain ⟨ASz4_0, cSz4_0, HGz4, hgz4, HSz4_0⟩ := HI0.out
   have hcz4_0 := cellS105_0 HGz4
   have hcz4_1 := cellS105_1 HGz4
   have hcz4_2 := cellS105_2 HGz4
   have hfz4_1 := blk_frozen HGz4 1
   have hfz4_2 := blk_frozen HGz4 2
   clear HGz4 hgz4
   have p253 : 0 ≤ (s0_1 : Int) := of_decide_eq_true (by first | (with_reducible assumption) | assumption)
   have q253 : s0_1 < (s0_0.length : Int) := of_decide_eq_true (by first | (with_reducible assumption) | assumption)
   obtain ⟨ad253, e253, hx253_0⟩ := Kd.at_int HSz4_0 s0_1 p253 q253
   cases e253
   have hn253_0 : ad253.block ≠ g := Nat.ne_of_lt (Nat.lt_of_lt_of_le (by have := World.block_lt_of_cell? _ _ hx253_0; first | rwa [add_block] at this | exact this) (IsS105.ge HI0.out))
   replace hx253_0 := pw_cell_below HB.out hx253_0
   replace hx253_0 := (cell_far (p := ⟨g, 2, none⟩) (by first | (rw [add_block]; exact hn253_0) | (show (Addr.add _ _).block ≠ _; rw [add_block]; exact hn253_0) | exact hn253_0) (.int .i64 (wrap64 ((wrap64 (s0_2 * 6364136223846793005)) + 1442695040888963407)))).trans hx253_0
   (try have hy253_0 := fun (n_ : Nat) => (show (((w.drewN n_).setCell ⟨g, 2, none⟩ (.int .i64 (wrap64 ((wrap64 (s0_2 * 6364136223846793005)) + 1442695040888963407))))).cell? _ = some _ from hx253_0))
   clear hn253_0
   replace p253 := eq_true p253
   replace q253 := eq_true q253
   go_enter Try.func118, Try.ntmps118
   go_wp2
   repeat (go_quiet (fail); try go_wp2)
   go_ret
   exact ⟨by first | rfl | (simp [errW_none, errW_some] <;> rfl) | (simp [*, errW_none, errW_some] <;> rfl), by repeat (first | (with_reducible first | exact HI0.out | apply IsS105.alloc | apply IsS105.drewN | apply IsS105.drew | apply IsS105.set_1 | apply IsS105.set_2) | exact HI0.out), by repeat (first | (with_reducible first | exact HB.out | apply below_alloc | apply pw_below_drewN | apply below_drew1 | refine below_set ?_ (IsS105.ge HI0.out)) | exact HB.out), by repeat (first | (with_reducible first | exact HK.out | apply KeepBut.set_ | apply keep_drewN | apply keep_drew | apply keep_alloc) | exact HK.out)⟩
  ·
   rw [if_neg c3] at H
   exact absurd H (by simp)
 ·
  rw [if_neg c2] at H
  have c2b0 : decide (s0_1 < (s0_0.length : Int)) = false := decide_eq_false c2
  clear c2
  simp only [Option.some.injEq, Prod.mk.injEq] at H
  obtain ⟨rfl, rfl, rfl⟩ := H
  obtain ⟨ASz5_0, cSz5_0, HGz5, hgz5, HSz5_0⟩ := HI0.out
  have hcz5_0 := cellS105_0 HGz5
  have hcz5_1 := cellS105_1 HGz5
  have hcz5_2 := cellS105_2 HGz5
  have hfz5_1 := blk_frozen HGz5 1
  have hfz5_2 := blk_frozen HGz5 2
  clear HGz5 hgz5
  go_enter Try.func118, Try.ntmps118
  go_wp2
  repeat (go_quiet (fail); try go_wp2)
  go_ret
  exact ⟨by first | rfl | (simp [errW_none, errW_some] <;> rfl) | (simp [*, errW_none, errW_some] <;> rfl), by repeat (first | (with_reducible first | exact HI0.out | apply IsS105.alloc | apply IsS105.drewN | apply IsS105.drew | apply IsS105.set_1 | apply IsS105.set_2) | exact HI0.out), by repeat (first | (with_reducible first | exact HB.out | apply below_alloc | apply pw_below_drewN | apply below_drew1 | refine below_set ?_ (IsS105.ge HI0.out)) | exact HB.out), by repeat (first | (with_reducible first | exact HK.out | apply KeepBut.set_ | apply keep_drewN | apply keep_drew | apply keep_alloc) | exact HK.out)⟩
def spec_l1Below.f (s0_0 : List Int) (s0_1 : Int) (s0_2 : Int) (a1 : Int) : Option (Int × Int × Int) := if a1 ≤ 0 then (some (0, s0_1, s0_2)) else (if a1 ≤ 256 then ((spec_l1Byte.f s0_0 s0_1 s0_2).bind fun bt254 => (if a1 = 0 then (none) else (some (Int.tmod bt254.1 a1, bt254.2.1, bt254.2.2)))) else ((spec_l1Byte.f s0_0 s0_1 s0_2).bind fun bt257 => ((spec_l1Byte.f s0_0 bt257.2.1 bt257.2.2).bind fun bt260 => ((spec_l1Byte.f s0_0 bt260.2.1 bt260.2.2).bind fun bt263 => (if a1 = 0 then (none) else (some (Int.tmod (wrap64 ((wrap64 ((wrap64 (bt257.1 * 65536)) + (wrap64 (bt260.1 * 256)))) + bt263.1)) a1, bt263.2.1, bt263.2.2)))))))
set_option maxHeartbeats 8000000 in
set_option maxRecDepth 100000 in
theorem spec_l1Below.calls (g : Nat) (s0_0 : List Int) (s0_1 : Int) (s0_2 : Int) (a1 : Int) (r1 : Int) (r2 : Int) (r3 : Int) (w0 w : World) (hI : IsS105 w0 w g s0_0 s0_1 s0_2) (hB : Below w0.heap.size w0 w) (h : spec_l1Below.f s0_0 s0_1 s0_2 a1 = some (r1, r2, r3)) :
  Calls Try.prog 102 #[.pointer (some ⟨g, 0, none⟩), .int .i64 a1] w fun e w' => e = .returned (.int .i64 r1) ∧ IsS105 w0 w' g s0_0 r2 r3 ∧ Below w0.heap.size w0 w' ∧ KeepBut w w' g none := by
 have HI0 := Aside0.mk hI
 have HK := Aside0.mk (KeepBut.refl w g none)
 have HL := Aside0.mk hB.size
 clear hI
 have HW0 := Aside0.mk hB.size
 have HB := Aside0.mk hB
 clear hB
 have H : (if a1 ≤ 0 then (some (0, s0_1, s0_2)) else (if a1 ≤ 256 then ((spec_l1Byte.f s0_0 s0_1 s0_2).bind fun bt254 => (if a1 = 0 then (none) else (some (Int.tmod bt254.1 a1, bt254.2.1, bt254.2.2)))) else ((spec_l1Byte.f s0_0 s0_1 s0_2).bind fun bt257 => ((spec_l1Byte.f s0_0 bt257.2.1 bt257.2.2).bind fun bt260 => ((spec_l1Byte.f s0_0 bt260.2.1 bt260.2.2).bind fun bt263 => (if a1 = 0 then (none) else (some (Int.tmod (wrap64 ((wrap64 ((wrap64 (bt257.1 * 65536)) + (wrap64 (bt260.1 * 256)))) + bt263.1)) a1, bt263.2.1, bt263.2.2)))))))) = some (r1, r2, r3) := h
 clear h
 by_cases c3 : a1 ≤ 0
 ·
  rw [if_pos c3] at H
  have c3b0 : decide (a1 ≤ 0) = true := decide_eq_true c3
  clear c3
  simp only [Option.some.injEq, Prod.mk.injEq] at H
  obtain ⟨rfl, rfl, rfl⟩ := H
  go_enter Try.func102, Try.ntmps102
  go_wp2
  go_ret
  exact ⟨by first | rfl | (simp [errW_none, errW_some] <;> rfl) | (simp [*, errW_none, errW_some] <;> rfl), by repeat (first | (with_reducible first | exact HI0.out | apply IsS105.alloc | apply IsS105.drewN | apply IsS105.drew | apply IsS105.set_1 | apply IsS105.set_2) | exact HI0.out), by repeat (first | (with_reducible first | exact HB.out | apply below_alloc | apply pw_below_drewN | apply below_drew1 | refine below_set ?_ (IsS105.ge HI0.out)) | exact HB.out), by repeat (first | (with_reducible first | exact HK.out | apply KeepBut.set_ | apply keep_drewN | apply keep_drew | apply keep_alloc) | exact HK.out)⟩
 ·
  rw [if_neg c3] at H
  have c3b0 : decide (a1 ≤ 0) = false := decide_eq_false c3
  clear c3
  by_cases c4 : a1 ≤ 256
  ·
   rw [if_pos c4] at H
   have c4b0 : decide (a1 ≤ 256) = true := decide_eq_true c4
   clear c4
   replace H := Option.bind_eq_some_iff.mp H
   obtain ⟨⟨t254, t255, t256⟩, A50, H⟩ := H
   replace H : (if a1 = 0 then (none) else (some (Int.tmod t254 a1, t255, t256))) = some (r1, r2, r3) := H
   have A5 := Aside0.mk A50
   clear A50
   by_cases c6 : a1 = 0
   ·
    rw [if_pos c6] at H
    exact absurd H (by simp)
   ·
    rw [if_neg c6] at H
    have c6b0 : (a1 == 0) = false := beq_eq_false_iff_ne.mpr c6
    have c6b1 : (a1 != 0) = true := bne_iff_ne.mpr c6
    simp only [Option.some.injEq, Prod.mk.injEq] at H
    obtain ⟨rfl, rfl, rfl⟩ := H
    go_enter Try.func102, Try.ntmps102
    go_wp2_with (first | ((with_reducible refine gate_callee (f := 118) rfl ?_); refine goesL_ (some 13) rfl rfl Try.func118 (by kernel_rfl) rfl #[.pointer (some ⟨g, 0, none⟩)] rfl (by (try simp only [List.map_toArray, List.map_cons, List.map_nil]); first | done | rfl | (simp only [List.length_drop, List.length_take]; rfl)) ?_; (with_reducible refine (spec_l1Byte.calls g s0_0 s0_1 s0_2 t254 t255 t256 w0 _ ?side1 ?side2 A5.out).mono ?_); (case side1 => repeat (first | (with_reducible first | exact HI0.out | apply IsS105.alloc | apply IsS105.drewN | apply IsS105.drew | apply IsS105.set_1 | apply IsS105.set_2) | exact HI0.out)); (case side2 => repeat (first | (with_reducible first | exact HB.out | apply below_alloc | apply pw_below_drewN | apply below_drew1 | refine below_set ?_ (IsS105.ge HI0.out)) | exact HB.out)); rintro e w7 ⟨rfl, hi, hb, hk⟩; refine ⟨_, rfl, ?_⟩; have n0_ := Aside0.mk (KeepBut.trans (by repeat (first | (with_reducible first | exact HK.out | apply KeepBut.set_ | apply keep_drewN | apply keep_drew | apply keep_alloc) | exact HK.out)) hk (.inl rfl)); have n1_ := Aside0.mk (hb); have n2_ := Aside0.mk (hi); clear HK; clear HB; clear HI0; have HK := n0_; have HB := n1_; have HI0 := n2_; clear n0_ n1_ n2_; (try clear hb); (try clear hb2); (try clear hk); (try clear hi)))
    go_ret
    exact ⟨by first | rfl | (simp [errW_none, errW_some] <;> rfl) | (simp [*, errW_none, errW_some] <;> rfl), by repeat (first | (with_reducible first | exact HI0.out | apply IsS105.alloc | apply IsS105.drewN | apply IsS105.drew | apply IsS105.set_1 | apply IsS105.set_2) | exact HI0.out), by repeat (first | (with_reducible first | exact HB.out | apply below_alloc | apply pw_below_drewN | apply below_drew1 | refine below_set ?_ (IsS105.ge HI0.out)) | exact HB.out), by repeat (first | (with_reducible first | exact HK.out | apply KeepBut.set_ | apply keep_drewN | apply keep_drew | apply keep_alloc) | exact HK.out)⟩
  ·
   rw [if_neg c4] at H
   have c4b0 : decide (a1 ≤ 256) = false := decide_eq_false c4
   clear c4
   replace H := Option.bind_eq_some_iff.mp H
   obtain ⟨⟨t257, t258, t259⟩, A80, H⟩ := H
   replace H : ((spec_l1Byte.f s0_0 t258 t259).bind fun bt260 => ((spec_l1Byte.f s0_0 bt260.2.1 bt260.2.2).bind fun bt263 => (if a1 = 0 then (none) else (some (Int.tmod (wrap64 ((wrap64 ((wrap64 (t257 * 65536)) + (wrap64 (bt260.1 * 256)))) + bt263.1)) a1, bt263.2.1, bt263.2.2))))) = some (r1, r2, r3) := H
   have A8 := Aside0.mk A80
   clear A80
   replace H := Option.bind_eq_some_iff.mp H
   obtain ⟨⟨t260, t261, t262⟩, A90, H⟩ := H
   replace H : ((spec_l1Byte.f s0_0 t261 t262).bind fun bt263 => (if a1 = 0 then (none) else (some (Int.tmod (wrap64 ((wrap64 ((wrap64 (t257 * 65536)) + (wrap64 (t260 * 256)))) + bt263.1)) a1, bt263.2.1, bt263.2.2)))) = some (r1, r2, r3) := H
   have A9 := Aside0.mk A90
   clear A90
   replace H := Option.bind_eq_some_iff.mp H
   obtain ⟨⟨t263, t264, t265⟩, A100, H⟩ := H
   replace H : (if a1 = 0 then (none) else (some (Int.tmod (wrap64 ((wrap64 ((wrap64 (t257 * 65536)) + (wrap64 (t260 * 256)))) + t263)) a1, t264, t265))) = some (r1, r2, r3) := H
   have A10 := Aside0.mk A100
   clear A100
   by_cases c11 : a1 = 0
   ·
    rw [if_pos c11] at H
    exact absurd H (by simp)
   ·
    rw [if_neg c11] at H
    have c11b0 : (a1 == 0) = false := beq_eq_false_iff_ne.mpr c11
    have c11b1 : (a1 != 0) = true := bne_iff_ne.mpr c11
    simp only [Option.some.injEq, Prod.mk.injEq] at H
    obtain ⟨rfl, rfl, rfl⟩ := H
    go_enter Try.func102, Try.ntmps102
    go_wp2_with (first | ((with_reducible refine gate_callee (f := 118) rfl ?_); refine goesL_ (some 17) rfl rfl Try.func118 (by kernel_rfl) rfl #[.pointer (some ⟨g, 0, none⟩)] rfl (by (try simp only [List.map_toArray, List.map_cons, List.map_nil]); first | done | rfl | (simp only [List.length_drop, List.length_take]; rfl)) ?_; (with_reducible refine (spec_l1Byte.calls g s0_0 s0_1 s0_2 t257 t258 t259 w0 _ ?side1 ?side2 A8.out).mono ?_); (case side1 => repeat (first | (with_reducible first | exact HI0.out | apply IsS105.alloc | apply IsS105.drewN | apply IsS105.drew | apply IsS105.set_1 | apply IsS105.set_2) | exact HI0.out)); (case side2 => repeat (first | (with_reducible first | exact HB.out | apply below_alloc | apply pw_below_drewN | apply below_drew1 | refine below_set ?_ (IsS105.ge HI0.out)) | exact HB.out)); rintro e w12 ⟨rfl, hi, hb, hk⟩; refine ⟨_, rfl, ?_⟩; have n0_ := Aside0.mk (KeepBut.trans (by repeat (first | (with_reducible first | exact HK.out | apply KeepBut.set_ | apply keep_drewN | apply keep_drew | apply keep_alloc) | exact HK.out)) hk (.inl rfl)); have n1_ := Aside0.mk (hb); have n2_ := Aside0.mk (hi); clear HK; clear HB; clear HI0; have HK := n0_; have HB := n1_; have HI0 := n2_; clear n0_ n1_ n2_; (try clear hb); (try clear hb2); (try clear hk); (try clear hi)) | ((with_reducible refine gate_callee (f := 118) rfl ?_); refine goesL_ (some 19) rfl rfl Try.func118 (by kernel_rfl) rfl #[.pointer (some ⟨g, 0, none⟩)] rfl (by (try simp only [List.map_toArray, List.map_cons, List.map_nil]); first | done | rfl | (simp only [List.length_drop, List.length_take]; rfl)) ?_; (with_reducible refine (spec_l1Byte.calls g s0_0 t258 t259 t260 t261 t262 w0 _ ?side1 ?side2 A9.out).mono ?_); (case side1 => repeat (first | (with_reducible first | exact HI0.out | apply IsS105.alloc | apply IsS105.drewN | apply IsS105.drew | apply IsS105.set_1 | apply IsS105.set_2) | exact HI0.out)); (case side2 => repeat (first | (with_reducible first | exact HB.out | apply below_alloc | apply pw_below_drewN | apply below_drew1 | refine below_set ?_ (IsS105.ge HI0.out)) | exact HB.out)); rintro e w13 ⟨rfl, hi, hb, hk⟩; refine ⟨_, rfl, ?_⟩; have n0_ := Aside0.mk (KeepBut.trans (by repeat (first | (with_reducible first | exact HK.out | apply KeepBut.set_ | apply keep_drewN | apply keep_drew | apply keep_alloc) | exact HK.out)) hk (.inl rfl)); have n1_ := Aside0.mk (hb); have n2_ := Aside0.mk (hi); clear HK; clear HB; clear HI0; have HK := n0_; have HB := n1_; have HI0 := n2_; clear n0_ n1_ n2_; (try clear hb); (try clear hb2); (try clear hk); (try clear hi)) | ((with_reducible refine gate_callee (f := 118) rfl ?_); refine goesL_ (some 21) rfl rfl Try.func118 (by kernel_rfl) rfl #[.pointer (some ⟨g, 0, none⟩)] rfl (by (try simp only [List.map_toArray, List.map_cons, List.map_nil]); first | done | rfl | (simp only [List.length_drop, List.length_take]; rfl)) ?_; (with_reducible refine (spec_l1Byte.calls g s0_0 t261 t262 t263 t264 t265 w0 _ ?side1 ?side2 A10.out).mono ?_); (case side1 => repeat (first | (with_reducible first | exact HI0.out | apply IsS105.alloc | apply IsS105.drewN | apply IsS105.drew | apply IsS105.set_1 | apply IsS105.set_2) | exact HI0.out)); (case side2 => repeat (first | (with_reducible first | exact HB.out | apply below_alloc | apply pw_below_drewN | apply below_drew1 | refine below_set ?_ (IsS105.ge HI0.out)) | exact HB.out)); rintro e w14 ⟨rfl, hi, hb, hk⟩; refine ⟨_, rfl, ?_⟩; have n0_ := Aside0.mk (KeepBut.trans (by repeat (first | (with_reducible first | exact HK.out | apply KeepBut.set_ | apply keep_drewN | apply keep_drew | apply keep_alloc) | exact HK.out)) hk (.inl rfl)); have n1_ := Aside0.mk (hb); have n2_ := Aside0.mk (hi); clear HK; clear HB; clear HI0; have HK := n0_; have HB := n1_; have HI0 := n2_; clear n0_ n1_ n2_; (try clear hb); (try clear hb2); (try clear hk); (try clear hi)))
    go_ret
    exact ⟨by first | rfl | (simp [errW_none, errW_some] <;> rfl) | (simp [*, errW_none, errW_some] <;> rfl), by repeat (first | (with_reducible first | exact HI0.out | apply IsS105.alloc | apply IsS105.drewN | apply IsS105.drew | apply IsS105.set_1 | apply IsS105.set_2) | exact HI0.out), by repeat (first | (with_reducible first | exact HB.out | apply below_alloc | apply pw_below_drewN | apply below_drew1 | refine below_set ?_ (IsS105.ge HI0.out)) | exact HB.out), by repeat (first | (with_reducible first | exact HK.out | apply KeepBut.set_ | apply keep_drewN | apply keep_drew | apply keep_alloc) | exact HK.out)⟩
def spec_l19Copy.l0 : Nat → List (S78) → List (S78) → Int → Option ((List (S78)))
  | 0, _, _, _ => none
  | k + 1, x0, x3, x4 => if x4 < (x0.length : Int) then (if 0 ≤ x4 then ((some (([] : List Int) : List Int)).bind fun y271 => (if y271.length + ((rd_T78 x0 x4).f5).length < 17592186044416 then (if x3.length < 2199023255552 then (spec_l19Copy.l0 k x0 (x3 ++ [(⟨(rd_T78 x0 x4).f0, (rd_T78 x0 x4).f1, (rd_T78 x0 x4).f2, (rd_T78 x0 x4).f3, (rd_T78 x0 x4).f4, (y271 ++ ((rd_T78 x0 x4).f5))⟩ : S78)]) (wrap64 (x4 + 1))) else (none)) else (none))) else (none)) else (some x3)
def spec_l19Copy.f (k : Nat) (l0 : List (S78)) : Option ((List (S78))) := spec_l19Copy.l0 k l0 (([] : List (S78))) 0
set_option maxHeartbeats 8000000 in
set_option maxRecDepth 100000 in
theorem spec_l19Copy.calls (k : Nat) (A0 : Option Addr) (c0 : Nat) (l0 : List (S78)) (r : List (S78)) (w : World) (hr0 : Kd.C k78 w A0 l0.length l0) (hc0 : l0.length ≤ c0) (h : spec_l19Copy.f k l0 = some r) :
  Calls Try.prog 119 #[.slice A0 l0.length c0] w fun e w' => ∃ v0_ : Value, e = .returned (v0_) ∧ Kd.S k78 78 w' w.heap.size (fun _ => True) v0_ r ∧ Below w.heap.size w w' := by
 have hu78 := Try.underlying78
 have HR0 := Aside0.mk hr0
 have HC0 := Aside0.mk hc0
 clear hr0 hc0
 have HB := Aside0.mk (Below.refl w.heap.size w)
 have H : (spec_l19Copy.l0 k l0 (([] : List (S78))) 0) = some r := h
 clear h
 obtain ⟨y266, hy266⟩ : ∃ y_ : List (S78), y_ = (([] : List (S78))) := ⟨_, rfl⟩
 replace H : (spec_l19Copy.l0 k l0 y266 0) = some r := by first | (rw [hy266]; with_reducible exact H) | (have H2_ := (Option.bind_some _ _).symm.trans H; rw [hy266]; with_reducible exact H2_) | (have H2_ := (Option.bind_some _ _).symm.trans H; with_reducible exact H2_) | with_reducible exact H | (rw [hy266]; exact H) | exact H
 have Ny266 := Aside0.mk hy266
 clear hy266
 have H' := Aside0.mk H
 clear H
 go_enter Try.func119, Try.ntmps119
 go_wp2_with (first | ((with_reducible refine gate_dst (N := 6) rfl ?_); refine Kd.S_lit k78 _ 78 ?hg (N := 6) ?hd (xs := ([] : List (S78))) (inner := []) (ok := fun _ => True) (okp := fun _ => True) ?hr ?hp (fun _ hk => hk) trivial (Below.refl _ _) (Nat.le_refl _) (by simp) ?_; (case hd => rfl); (case hg => rfl); (case hr => first | (go_simp; done) | (go_simp; rfl)); (case hp => exact (Reps.none _ _)); intro v267 w2 ho3 hb hg_ hnew_; clear hg_ hnew_; (first | rw [← Ny266.out] at ho3 | (simp only [Int.reduceToNat] at ho3; rw [← Ny266.out] at ho3)); replace HO268 := Aside0.mk (Kd.S_lower ho3 (below_size (by repeat (first | (with_reducible first | exact HB.out | apply bA | apply bN | apply bD) | exact HB.out)))); replace HB := Aside0.mk (below_step (by repeat (first | (with_reducible first | exact HB.out | apply bA | apply bN | apply bD) | exact HB.out)) hb); clear hb ho3))
 go_loopg [3, 4] k (fun kq v3 v4 w' => ∃ (x3_1 : List (S78)) (x4_1 : Int), v4 = .int .i64 x4_1 ∧ Aside0 (spec_l19Copy.l0 kq l0 x3_1 x4_1 = some r) ∧ Aside0 (kq ≤ k) ∧ Aside0 (Kd.S k78 78 w' w.heap.size (fun _ => True) v3 x3_1) ∧ Aside0 (Below w.heap.size w w'))
 case atStart => exact ⟨(y266), (0), (by first | rfl | (simp; done) | (simp [*]; done)), H', ⟨Nat.le_refl _⟩, ⟨by (with_reducible repeat (first | apply sA | apply sN | apply sD)); exact HO268.out⟩, ⟨by repeat (first | (with_reducible first | exact HB.out | apply bA | apply bN | apply bD) | exact HB.out)⟩⟩
 case round =>
  clear H'
  try clear c1
  try clear p2
  obtain ⟨x3_1, x4_1, rfl, HA, HK1, HO_3, HB⟩ := hrel
  cases gk with
  | zero => exact absurd HA.out (by simp [spec_l19Copy.l0])
  | succ k1 =>
   have H := HA.out
   clear HA
   simp only [spec_l19Copy.l0] at H
   by_cases c4 : x4_1 < (l0.length : Int)
   ·
    rw [if_pos c4] at H
    have c4b0 : decide (x4_1 < (l0.length : Int)) = true := decide_eq_true c4
    clear c4
    by_cases c5 : 0 ≤ x4_1
    ·
     rw [if_pos c5] at H
     have c5b0 : decide (0 ≤ x4_1) = true := decide_eq_true c5
     clear c5
     obtain ⟨y271, hy271⟩ : ∃ y_ : List Int, y_ = (([] : List Int)) := ⟨_, rfl⟩
     replace H : (if y271.length + ((rd_T78 l0 x4_1).f5).length < 17592186044416 then (if x3_1.length < 2199023255552 then (spec_l19Copy.l0 k1 l0 (x3_1 ++ [(⟨(rd_T78 l0 x4_1).f0, (rd_T78 l0 x4_1).f1, (rd_T78 l0 x4_1).f2, (rd_T78 l0 x4_1).f3, (rd_T78 l0 x4_1).f4, (y271 ++ ((rd_T78 l0 x4_1).f5))⟩ : S78)]) (wrap64 (x4_1 + 1))) else (none)) else (none)) = some r := by first | (rw [hy271]; with_reducible exact H) | (have H2_ := (Option.bind_some _ _).symm.trans H; rw [hy271]; with_reducible exact H2_) | (have H2_ := (Option.bind_some _ _).symm.trans H; with_reducible exact H2_) | with_reducible exact H | (rw [hy271]; exact H) | exact H
     have Ny271 := Aside0.mk hy271
     clear hy271
     by_cases c6 : y271.length + ((rd_T78 l0 x4_1).f5).length < 17592186044416
     ·
      rw [if_pos c6] at H
      have LMc6 := Aside0.mk c6
      clear c6
      obtain ⟨y274, hy274⟩ : ∃ y_ : List Int, y_ = (y271 ++ ((rd_T78 l0 x4_1).f5)) := ⟨_, rfl⟩
      replace H : (if x3_1.length < 2199023255552 then (spec_l19Copy.l0 k1 l0 (x3_1 ++ [(⟨(rd_T78 l0 x4_1).f0, (rd_T78 l0 x4_1).f1, (rd_T78 l0 x4_1).f2, (rd_T78 l0 x4_1).f3, (rd_T78 l0 x4_1).f4, y274⟩ : S78)]) (wrap64 (x4_1 + 1))) else (none)) = some r := by first | (rw [hy274]; with_reducible exact H) | (have H2_ := (Option.bind_some _ _).symm.trans H; rw [hy274]; with_reducible exact H2_) | (have H2_ := (Option.bind_some _ _).symm.trans H; with_reducible exact H2_) | with_reducible exact H | (rw [hy274]; exact H) | exact H
      have Ny274 := Aside0.mk hy274
      clear hy274
      by_cases c7 : x3_1.length < 2199023255552
      ·
       rw [if_pos c7] at H
       have LMc7 := Aside0.mk c7
       clear c7
       obtain ⟨y277, hy277⟩ : ∃ y_ : List (S78), y_ = (x3_1 ++ [(⟨(rd_T78 l0 x4_1).f0, (rd_T78 l0 x4_1).f1, (rd_T78 l0 x4_1).f2, (rd_T78 l0 x4_1).f3, (rd_T78 l0 x4_1).f4, y274⟩ : S78)]) := ⟨_, rfl⟩
       replace H : (spec_l19Copy.l0 k1 l0 y277 (wrap64 (x4_1 + 1))) = some r := by first | (rw [hy277]; with_reducible exact H) | (have H2_ := (Option.bind_some _ _).symm.trans H; rw [hy277]; with_reducible exact H2_) | (have H2_ := (Option.bind_some _ _).symm.trans H; with_reducible exact H2_) | with_reducible exact H | (rw [hy277]; exact H) | exact H
       have Ny277 := Aside0.mk hy277
       clear hy277
       have H' := Aside0.mk H
       clear H
       have p269 : 0 ≤ (x4_1 : Int) := od (by assumption)
       have q269 : x4_1 < (l0.length : Int) := od (by assumption)
       obtain ⟨ad269, A269_5, c269_5, e269, hx269_0, hx269_1, hx269_2, hx269_3, hx269_4, hx269_5, hl269_5, hi269_5⟩ := at_T78 HR0.out x4_1 p269 q269
       cases e269
       replace hx269_0 := (HB.out.cell (bl w _ hx269_0)).trans hx269_0
       replace hx269_1 := (HB.out.cell (bl w _ hx269_1)).trans hx269_1
       replace hx269_2 := (HB.out.cell (bl w _ hx269_2)).trans hx269_2
       replace hx269_3 := (HB.out.cell (bl w _ hx269_3)).trans hx269_3
       replace hx269_4 := (HB.out.cell (bl w _ hx269_4)).trans hx269_4
       replace hx269_5 := (HB.out.cell (bl w _ hx269_5)).trans hx269_5
       have HR269_5 := Aside0.mk hi269_5
       have HC269_5 := Aside0.mk hl269_5
       clear hi269_5 hl269_5
       replace p269 := eq_true p269
       replace q269 := eq_true q269
       go_wp2_with (first | ((with_reducible refine gate_dst (N := 5) rfl ?_); refine box_event ?hg (N := 5) ?hd (cs := #[.int .i64 0, .int .i64 0, .int .i64 0, .int .i64 0, .int .i64 0, .slice none 0 0]) (t := 78) ?hr ?_; (case hd => rfl); (case hg => rfl); (case hr => first | (go_simp; done) | (go_simp; rfl)); intro gb270 hg w8 hbox hb; have n0_ := Aside0.mk (Kd.S_below (Kd.S_elderB (by (with_reducible repeat (first | apply sA | apply sN | apply sD)); exact HO_3.out) gb270 (Nat.le_of_eq hg.symm)) hb); have n1_ := Aside0.mk (below_step (by repeat (first | (with_reducible first | exact HB.out | apply bA | apply bN | apply bD) | exact HB.out)) hb); have n2_ := Aside0.mk (hbox); have n3_ := Aside0.mk ((by rw [hg]; exact (below_size (by repeat (first | (with_reducible first | exact HB.out | apply bA | apply bN | apply bD) | exact HB.out))) : w.heap.size ≤ gb270)); have n4_ := Aside0.mk ((by rw [hg]; exact (below_size (by repeat (first | (with_reducible first | exact HB.out | apply bA | apply bN | apply bD) | exact HB.out))) : w.heap.size ≤ gb270)); clear HO_3; clear HB; have HO_3 := n0_; have HB := n1_; have BK270 := n2_; have GW270 := n3_; have GE270 := n4_; clear n0_ n1_ n2_ n3_ n4_; clear hb hbox hg; have hcz9_0 : w8.cell? ⟨gb270, 0, none⟩ = some (.int .i64 0) := (blk_cell BK270.out 0).trans rfl; have hcz9_1 : w8.cell? ⟨gb270, 1, none⟩ = some (.int .i64 0) := (blk_cell BK270.out 1).trans rfl; have hcz9_2 : w8.cell? ⟨gb270, 2, none⟩ = some (.int .i64 0) := (blk_cell BK270.out 2).trans rfl; have hcz9_3 : w8.cell? ⟨gb270, 3, none⟩ = some (.int .i64 0) := (blk_cell BK270.out 3).trans rfl; have hcz9_4 : w8.cell? ⟨gb270, 4, none⟩ = some (.int .i64 0) := (blk_cell BK270.out 4).trans rfl; have hcz9_5 : w8.cell? ⟨gb270, 5, none⟩ = some (.slice none 0 0) := (blk_cell BK270.out 5).trans rfl; have hfz9_0 := blk_frozen BK270.out 0; have hfz9_1 := blk_frozen BK270.out 1; have hfz9_2 := blk_frozen BK270.out 2; have hfz9_3 := blk_frozen BK270.out 3; have hfz9_4 := blk_frozen BK270.out 4; have hfz9_5 := blk_frozen BK270.out 5) | ((with_reducible refine gate_dst (N := 17) rfl ?_); refine Kd.R_lit (Kd.int .i64) _ 3 ?hg (N := 17) ?hd (xs := ([] : List Int)) (inner := []) (ok := fun _ => True) (okp := fun _ => True) ?hr ?hp (fun _ hk => hk) trivial (Below.refl _ _) (Nat.le_refl _) (by simp) ?_; (case hd => rfl); (case hg => rfl); (case hr => first | (go_simp; done) | (go_simp; rfl)); (case hp => exact (Reps.none _ _)); intro v272 w10 ho11 hb hg_ hnew_; clear hg_ hnew_; (first | rw [← Ny271.out] at ho11 | (simp only [Int.reduceToNat] at ho11; rw [← Ny271.out] at ho11)); replace HO_3 := Aside0.mk (Kd.S_elder' (by (with_reducible repeat (first | apply sA | apply sN | apply sD)); exact (Kd.S_mono (Kd.S_far (p := ⟨gb270, 5, none⟩) (Kd.S_far (p := ⟨gb270, 4, none⟩) (Kd.S_far (p := ⟨gb270, 3, none⟩) (Kd.S_far (p := ⟨gb270, 2, none⟩) (Kd.S_far (p := ⟨gb270, 1, none⟩) (Kd.S_far (p := ⟨gb270, 0, none⟩) (Kd.S_mono HO_3.out (fun k_ hk => (⟨hk, hk.2⟩ : _ ∧ k_ ≠ gb270))) (fun _ hk => hk.2) (.int .i64 ((rd_T78 l0 x4_1).f0))) (fun _ hk => hk.2) (.int .i64 ((rd_T78 l0 x4_1).f1))) (fun _ hk => hk.2) (.int .i64 ((rd_T78 l0 x4_1).f2))) (fun _ hk => hk.2) (.int .i64 ((rd_T78 l0 x4_1).f3))) (fun _ hk => hk.2) (.int .i64 ((rd_T78 l0 x4_1).f4))) (fun _ hk => hk.2) (.slice A269_5 ((rd_T78 l0 x4_1).f5).length c269_5)) (fun _ h_ => h_.1))) (Kd.R_base ho11) hb); replace HO273 := Aside0.mk (Kd.R_lower ho11 (below_size (by repeat (first | (with_reducible first | exact HB.out | apply bA | apply bN | apply bD | refine below_set ?_ GE270.out) | exact HB.out)))); replace BK270 := Aside0.mk (blk_below (g := gb270) (o := .cells #[.int .i64 ((rd_T78 l0 x4_1).f0), .int .i64 ((rd_T78 l0 x4_1).f1), .int .i64 ((rd_T78 l0 x4_1).f2), .int .i64 ((rd_T78 l0 x4_1).f3), .int .i64 ((rd_T78 l0 x4_1).f4), .slice A269_5 ((rd_T78 l0 x4_1).f5).length c269_5] 78 (0, 0)) (by (with_reducible repeat (first | refine kN ?_ _ | refine kD ?_ | refine kA ?_ _)); refine blk_put (cs := #[.int .i64 ((rd_T78 l0 x4_1).f0), .int .i64 ((rd_T78 l0 x4_1).f1), .int .i64 ((rd_T78 l0 x4_1).f2), .int .i64 ((rd_T78 l0 x4_1).f3), .int .i64 ((rd_T78 l0 x4_1).f4), .slice none 0 0]) ?_ 5 _ rfl; (with_reducible repeat (first | refine kN ?_ _ | refine kD ?_ | refine kA ?_ _)); refine blk_put (cs := #[.int .i64 ((rd_T78 l0 x4_1).f0), .int .i64 ((rd_T78 l0 x4_1).f1), .int .i64 ((rd_T78 l0 x4_1).f2), .int .i64 ((rd_T78 l0 x4_1).f3), .int .i64 0, .slice none 0 0]) ?_ 4 _ rfl; (with_reducible repeat (first | refine kN ?_ _ | refine kD ?_ | refine kA ?_ _)); refine blk_put (cs := #[.int .i64 ((rd_T78 l0 x4_1).f0), .int .i64 ((rd_T78 l0 x4_1).f1), .int .i64 ((rd_T78 l0 x4_1).f2), .int .i64 0, .int .i64 0, .slice none 0 0]) ?_ 3 _ rfl; (with_reducible repeat (first | refine kN ?_ _ | refine kD ?_ | refine kA ?_ _)); refine blk_put (cs := #[.int .i64 ((rd_T78 l0 x4_1).f0), .int .i64 ((rd_T78 l0 x4_1).f1), .int .i64 0, .int .i64 0, .int .i64 0, .slice none 0 0]) ?_ 2 _ rfl; (with_reducible repeat (first | refine kN ?_ _ | refine kD ?_ | refine kA ?_ _)); refine blk_put (cs := #[.int .i64 ((rd_T78 l0 x4_1).f0), .int .i64 0, .int .i64 0, .int .i64 0, .int .i64 0, .slice none 0 0]) ?_ 1 _ rfl; (with_reducible repeat (first | refine kN ?_ _ | refine kD ?_ | refine kA ?_ _)); refine blk_put (cs := #[.int .i64 0, .int .i64 0, .int .i64 0, .int .i64 0, .int .i64 0, .slice none 0 0]) ?_ 0 _ rfl; (with_reducible repeat (first | refine kN ?_ _ | refine kD ?_ | refine kA ?_ _)); exact BK270.out) hb); replace HB := Aside0.mk (below_step (by repeat (first | (with_reducible first | exact HB.out | apply bA | apply bN | apply bD | refine below_set ?_ GE270.out) | exact HB.out)) hb); clear hb ho11; have hcz12_0 : w10.cell? ⟨gb270, 0, none⟩ = some (.int .i64 ((rd_T78 l0 x4_1).f0)) := (blk_cell BK270.out 0).trans rfl; have hcz12_1 : w10.cell? ⟨gb270, 1, none⟩ = some (.int .i64 ((rd_T78 l0 x4_1).f1)) := (blk_cell BK270.out 1).trans rfl; have hcz12_2 : w10.cell? ⟨gb270, 2, none⟩ = some (.int .i64 ((rd_T78 l0 x4_1).f2)) := (blk_cell BK270.out 2).trans rfl; have hcz12_3 : w10.cell? ⟨gb270, 3, none⟩ = some (.int .i64 ((rd_T78 l0 x4_1).f3)) := (blk_cell BK270.out 3).trans rfl; have hcz12_4 : w10.cell? ⟨gb270, 4, none⟩ = some (.int .i64 ((rd_T78 l0 x4_1).f4)) := (blk_cell BK270.out 4).trans rfl; have hcz12_5 : w10.cell? ⟨gb270, 5, none⟩ = some (.slice A269_5 ((rd_T78 l0 x4_1).f5).length c269_5) := (blk_cell BK270.out 5).trans rfl; have hfz12_0 := blk_frozen BK270.out 0; have hfz12_1 := blk_frozen BK270.out 1; have hfz12_2 := blk_frozen BK270.out 2; have hfz12_3 := blk_frozen BK270.out 3; have hfz12_4 := blk_frozen BK270.out 4; have hfz12_5 := blk_frozen BK270.out 5) | ((with_reducible refine gate_builtin (b := .append) (xs := #[.tmp 17, .tmp 19]) rfl ?_); at_builtin; refine Kd.R_append_rows (Kd.int .i64) (w0 := w) w.heap.size rfl (.tmp 17) (.tmp 19) 29 3 (.int .i64 0) 8 rfl Try.underlying29 info3 rfl (by decide) (by omega) v272 y271 ((rd_T78 l0 x4_1).f5) _ _ _ (fun _ => True) (fun _ => False) rfl rfl ?aO ?aR (fun _ _ h => h) (fun _ h => h.elim) ?aF ?aB ?aS ?aL ?_; (case aR => repeat (first | exact (Kd.C_below HR269_5.out HB.out) | (with_reducible first | refine cA ?_ _ | refine cN ?_ _ | refine cD ?_))); (case aB => exact (by repeat (first | (with_reducible first | exact HB.out | apply bA | apply bN | apply bD | refine below_set ?_ GE270.out) | exact HB.out))); (case aF => exact (fun _ _ => trivial)); (case aO => exact (by (with_reducible repeat (first | apply rA | apply rN | apply rD)); exact HO273.out)); (case aS => exact (below_size (by repeat (first | (with_reducible first | exact HB.out | apply bA | apply bN | apply bD | refine below_set ?_ GE270.out) | exact HB.out)))); (case aL => have := LMc6.out; omega); intro v275 w13 ho hb hg hat; rw [← Ny274.out] at ho; replace HO_3 := Aside0.mk (Kd.S_after (ok := (fun k_ => k_ ≠ gb270)) (by (with_reducible repeat (first | apply sA | apply sN | apply sD)); exact Kd.S_mono HO_3.out (fun _ hk => ⟨hk.1.2, hk.2⟩)) hg hat); replace BK270 := Aside0.mk (blk_grown (g := gb270) (o := .cells #[.int .i64 ((rd_T78 l0 x4_1).f0), .int .i64 ((rd_T78 l0 x4_1).f1), .int .i64 ((rd_T78 l0 x4_1).f2), .int .i64 ((rd_T78 l0 x4_1).f3), .int .i64 ((rd_T78 l0 x4_1).f4), .slice A269_5 ((rd_T78 l0 x4_1).f5).length c269_5] 78 (0, 0)) (by (with_reducible repeat (first | refine kN ?_ _ | refine kD ?_ | refine kA ?_ _)); exact BK270.out) hg (Kd.R_ne HO273.out BK270.out (by decide))); replace HB := Aside0.mk (hb); replace HO276 := Aside0.mk (ho); clear HO273; clear ho hb hg hat; obtain ⟨Ao14, co14, eo14⟩ := Kd.R_slice HO276.out; subst eo14; have hcz15_0 : w13.cell? ⟨gb270, 0, none⟩ = some (.int .i64 ((rd_T78 l0 x4_1).f0)) := (blk_cell BK270.out 0).trans rfl; have hcz15_1 : w13.cell? ⟨gb270, 1, none⟩ = some (.int .i64 ((rd_T78 l0 x4_1).f1)) := (blk_cell BK270.out 1).trans rfl; have hcz15_2 : w13.cell? ⟨gb270, 2, none⟩ = some (.int .i64 ((rd_T78 l0 x4_1).f2)) := (blk_cell BK270.out 2).trans rfl; have hcz15_3 : w13.cell? ⟨gb270, 3, none⟩ = some (.int .i64 ((rd_T78 l0 x4_1).f3)) := (blk_cell BK270.out 3).trans rfl; have hcz15_4 : w13.cell? ⟨gb270, 4, none⟩ = some (.int .i64 ((rd_T78 l0 x4_1).f4)) := (blk_cell BK270.out 4).trans rfl; have hcz15_5 : w13.cell? ⟨gb270, 5, none⟩ = some (.slice A269_5 ((rd_T78 l0 x4_1).f5).length c269_5) := (blk_cell BK270.out 5).trans rfl; have hfz15_0 := blk_frozen BK270.out 0; have hfz15_1 := blk_frozen BK270.out 1; have hfz15_2 := blk_frozen BK270.out 2; have hfz15_3 := blk_frozen BK270.out 3; have hfz15_4 := blk_frozen BK270.out 4; have hfz15_5 := blk_frozen BK270.out 5) | ((with_reducible refine gate_store (t := 29) (p := 21) rfl ?_); refine store_event (t := 29) (p := 21) (v := ?vo_w16) (w1 := (w13.setCell ⟨gb270, 5, none⟩ (.slice Ao14 y274.length co14))) ?hg ?ho ?hn ?hr ?_; (case ho => rfl); (case hg => rfl); (case hn => rfl); (case hr => first | (go_simp; done) | (go_simp; rfl)); intro w16 hw; have n0_ : Aside0 (Kd.S k78 78 w16 w.heap.size (fun k_ => some k_ ≠ (.slice Ao14 y274.length co14 : Value).ownBlock ∧ k_ ≠ gb270) u3 x3_1) := ⟨(by rw [hw]; exact (by (with_reducible repeat (first | apply sA | apply sN | apply sD)); exact Kd.S_mono (Kd.S_far (p := ⟨gb270, 5, none⟩) (Kd.S_mono HO_3.out (fun k_ hk => (⟨hk, hk.1⟩ : _ ∧ k_ ≠ gb270))) (fun _ hk => hk.2) (.slice Ao14 y274.length co14)) (fun _ hk => ⟨hk.1.2, hk.1.1⟩)))⟩; have n1_ : Aside0 (Kd.R (Kd.int .i64) 3 w16 w.heap.size (fun _ => True) (.slice Ao14 y274.length co14) y274) := ⟨(by rw [hw]; exact (by (with_reducible repeat (first | apply rA | apply rN | apply rD)); exact Kd.R_mono (Kd.R_far (p := ⟨gb270, 5, none⟩) (Kd.R_types HO276.out BK270.out (by decide)) (fun _ hk => hk.2) (.slice Ao14 y274.length co14)) (fun _ hk => trivial)))⟩; have n2_ : Aside0 (w16.heap[gb270]? = some (.cells #[.int .i64 ((rd_T78 l0 x4_1).f0), .int .i64 ((rd_T78 l0 x4_1).f1), .int .i64 ((rd_T78 l0 x4_1).f2), .int .i64 ((rd_T78 l0 x4_1).f3), .int .i64 ((rd_T78 l0 x4_1).f4), .slice Ao14 y274.length co14] 78 (0, 0))) := ⟨(by rw [hw]; exact (by (with_reducible repeat (first | refine kN ?_ _ | refine kD ?_ | refine kA ?_ _)); refine blk_put (cs := #[.int .i64 ((rd_T78 l0 x4_1).f0), .int .i64 ((rd_T78 l0 x4_1).f1), .int .i64 ((rd_T78 l0 x4_1).f2), .int .i64 ((rd_T78 l0 x4_1).f3), .int .i64 ((rd_T78 l0 x4_1).f4), .slice A269_5 ((rd_T78 l0 x4_1).f5).length c269_5]) ?_ 5 _ rfl; (with_reducible repeat (first | refine kN ?_ _ | refine kD ?_ | refine kA ?_ _)); exact BK270.out))⟩; have n3_ : Aside0 (Below w.heap.size w w16) := ⟨(by rw [hw]; exact (by repeat (first | (with_reducible first | exact HB.out | apply bA | apply bN | apply bD | refine below_set ?_ GE270.out) | exact HB.out)))⟩; clear hw; clear HO_3; clear HO276; clear BK270; clear HB; have HO_3 := n0_; have HO276 := n1_; have BK270 := n2_; have HB := n3_; clear n0_ n1_ n2_ n3_; have hcz17_0 : w16.cell? ⟨gb270, 0, none⟩ = some (.int .i64 ((rd_T78 l0 x4_1).f0)) := (blk_cell BK270.out 0).trans rfl; have hcz17_1 : w16.cell? ⟨gb270, 1, none⟩ = some (.int .i64 ((rd_T78 l0 x4_1).f1)) := (blk_cell BK270.out 1).trans rfl; have hcz17_2 : w16.cell? ⟨gb270, 2, none⟩ = some (.int .i64 ((rd_T78 l0 x4_1).f2)) := (blk_cell BK270.out 2).trans rfl; have hcz17_3 : w16.cell? ⟨gb270, 3, none⟩ = some (.int .i64 ((rd_T78 l0 x4_1).f3)) := (blk_cell BK270.out 3).trans rfl; have hcz17_4 : w16.cell? ⟨gb270, 4, none⟩ = some (.int .i64 ((rd_T78 l0 x4_1).f4)) := (blk_cell BK270.out 4).trans rfl; have hcz17_5 : w16.cell? ⟨gb270, 5, none⟩ = some (.slice Ao14 y274.length co14) := (blk_cell BK270.out 5).trans rfl; have hfz17_0 := blk_frozen BK270.out 0; have hfz17_1 := blk_frozen BK270.out 1; have hfz17_2 := blk_frozen BK270.out 2; have hfz17_3 := blk_frozen BK270.out 3; have hfz17_4 := blk_frozen BK270.out 4; have hfz17_5 := blk_frozen BK270.out 5) | ((with_reducible refine gate_builtin (b := .append) (xs := #[.tmp 22, .tmp 24]) rfl ?_); at_builtin; refine Kd.S_append k78 (w0 := w) w.heap.size rfl (.tmp 22) (.tmp 24) 44 78 (.agg #[(.int .i64 0), (.int .i64 0), (.int .i64 0), (.int .i64 0), (.int .i64 0), (.slice none 0 0)]) 64 rfl Try.underlying44 info78 rfl (by decide) (by omega) u3 x3_1 (⟨(rd_T78 l0 x4_1).f0, (rd_T78 l0 x4_1).f1, (rd_T78 l0 x4_1).f2, (rd_T78 l0 x4_1).f3, (rd_T78 l0 x4_1).f4, y274⟩ : S78) [.int .i64 ((rd_T78 l0 x4_1).f0), .int .i64 ((rd_T78 l0 x4_1).f1), .int .i64 ((rd_T78 l0 x4_1).f2), .int .i64 ((rd_T78 l0 x4_1).f3), .int .i64 ((rd_T78 l0 x4_1).f4), .slice Ao14 y274.length co14] (fun k_ => k_ ≠ gb270) (fun k_ => some k_ = (.slice Ao14 y274.length co14 : Value).ownBlock) rfl rfl ?aP (fun k_ hk_ => ((Kd.R_mono (ok' := fun k_ => ((fun k_ => k_ ≠ gb270)) k_ ∧ some k_ ≠ (u3 : Value).ownBlock) (Kd.R_types (Kd.R_apart' (HO276.out) (Kd.S_typed HO_3.out) (by decide)) BK270.out (by decide)) (fun k_ hk => ⟨hk.2, hk.1.2⟩))).1 k_ hk_.symm) ?aF ?aO ?aB ?aS ?aL ?_; (case aP => exact k78_mkM _ _ _ (⟨(rd_T78 l0 x4_1).f0, (rd_T78 l0 x4_1).f1, (rd_T78 l0 x4_1).f2, (rd_T78 l0 x4_1).f3, (rd_T78 l0 x4_1).f4, y274⟩ : S78) (Kd.R_mono (Kd.R_tight rfl (Kd.R_mono (ok' := fun k_ => ((fun k_ => k_ ≠ gb270)) k_ ∧ some k_ ≠ (u3 : Value).ownBlock) (Kd.R_types (Kd.R_apart' (HO276.out) (Kd.S_typed HO_3.out) (by decide)) BK270.out (by decide)) (fun k_ hk => ⟨hk.2, hk.1.2⟩))) (fun _ h_ => h_))); (case aB => exact (by repeat (first | (with_reducible first | exact HB.out | apply bA | apply bN | apply bD | refine below_set ?_ GE270.out) | exact HB.out))); (case aF => exact (fun k_ hk => Kd.freshB (g := gb270) (o := .cells #[.int .i64 ((rd_T78 l0 x4_1).f0), .int .i64 ((rd_T78 l0 x4_1).f1), .int .i64 ((rd_T78 l0 x4_1).f2), .int .i64 ((rd_T78 l0 x4_1).f3), .int .i64 ((rd_T78 l0 x4_1).f4), .slice Ao14 y274.length co14] 78 (0, 0)) (by (with_reducible repeat (first | refine kN ?_ _ | refine kD ?_ | refine kA ?_ _)); exact BK270.out) k_ hk)); (case aO => exact (by (with_reducible repeat (first | apply sA | apply sN | apply sD)); exact Kd.S_mono HO_3.out (fun k_ hk => ⟨hk.2, fun e_ => hk.1 e_⟩))); (case aS => exact (below_size (by repeat (first | (with_reducible first | exact HB.out | apply bA | apply bN | apply bD | refine below_set ?_ GE270.out) | exact HB.out)))); (case aL => have := LMc7.out; omega); intro v278 w18 ho hb hg hat; rw [← Ny277.out] at ho; replace BK270 := Aside0.mk (blk_grown (g := gb270) (o := .cells #[.int .i64 ((rd_T78 l0 x4_1).f0), .int .i64 ((rd_T78 l0 x4_1).f1), .int .i64 ((rd_T78 l0 x4_1).f2), .int .i64 ((rd_T78 l0 x4_1).f3), .int .i64 ((rd_T78 l0 x4_1).f4), .slice Ao14 y274.length co14] 78 (0, 0)) (by (with_reducible repeat (first | refine kN ?_ _ | refine kD ?_ | refine kA ?_ _)); exact BK270.out) hg (Kd.S_away HO_3.out (fun _ hk => hk.2))); replace HB := Aside0.mk (hb); replace HO279 := Aside0.mk (ho); clear HO276; clear HO_3; clear ho hb hg hat))
       go_roundg k1
       case measure => have := HK1.out; omega
       case rel => exact ⟨(y277), (wrap64 (x4_1 + 1)), (by first | rfl | (simp; done) | (simp [*]; done)), H', ⟨by have := HK1.out; omega⟩, ⟨by (with_reducible repeat (first | apply sA | apply sN | apply sD)); exact Kd.S_mono HO279.out (fun _ hk => trivial)⟩, ⟨by repeat (first | (with_reducible first | exact HB.out | apply bA | apply bN | apply bD | refine below_set ?_ GE270.out) | exact HB.out)⟩⟩
      ·
       rw [if_neg c7] at H
       exact absurd H (by simp)
     ·
      rw [if_neg c6] at H
      exact absurd H (by simp)
    ·
     rw [if_neg c5] at H
     exact absurd H (by simp)
   ·
    rw [if_neg c4] at H
    have c4b0 : decide (x4_1 < (l0.length : Int)) = false := decide_eq_false c4
    clear c4
    obtain rfl := Option.some.inj H
    go_wp2
    go_ret
    exact ⟨_, by first | rfl | (simp [*, errW_none, errW_some] <;> rfl), by (with_reducible repeat (first | apply sA | apply sN | apply sD)); exact HO_3.out, by repeat (first | (with_reducible first | exact HB.out | apply bA | apply bN | apply bD) | exact HB.out)⟩
mutual
def spec_AddResult.j0 : Nat → List (S78) → Int → Int → Int → Int → Int → List (S78) → Int → Int → Bool → Option ((List (S78)) × Bool)
  | 0, _, _, _, _, _, _, _, _, _, _ => none
  | k + 1, x0, x1, x2, x3, x4, x5, x14, x15, x16, x55 => if x55 = true then (some (x14, false)) else (if 0 ≤ x15 then (if x15 < (x14.length : Int) then (if ((rd_T78 x14 x15).f5).length < 17592186044416 then ((some (x14.set (x15 : Int).toNat (⟨(rd_T78 x14 x15).f0, (rd_T78 x14 x15).f1, (rd_T78 x14 x15).f2, (rd_T78 x14 x15).f3, (rd_T78 x14 x15).f4, (((rd_T78 x14 x15).f5) ++ [x2])⟩ : S78) : List (S78))).bind fun y293 => (if 0 ≤ x16 then (if x16 < (x14.length : Int) then (if ((rd_T78 y293 x16).f5).length < 17592186044416 then ((some (y293.set (x16 : Int).toNat (⟨(rd_T78 y293 x16).f0, (rd_T78 y293 x16).f1, (rd_T78 y293 x16).f2, (rd_T78 y293 x16).f3, (rd_T78 y293 x16).f4, (((rd_T78 y293 x16).f5) ++ [x1])⟩ : S78) : List (S78))).bind fun y298 => ((some (y298.set (x15 : Int).toNat (⟨(rd_T78 y298 x15).f0, (rd_T78 y298 x15).f1, (rd_T78 y298 x15).f2, (rd_T78 y298 x15).f3, wrap64 (((rd_T78 y298 x15).f4) + 1), (rd_T78 y298 x15).f5⟩ : S78) : List (S78))).bind fun y300 => ((some (y300.set (x15 : Int).toNat (⟨(rd_T78 y300 x15).f0, (rd_T78 y300 x15).f1, (rd_T78 y300 x15).f2, wrap64 (((rd_T78 y300 x15).f3) + x4), (rd_T78 y300 x15).f4, (rd_T78 y300 x15).f5⟩ : S78) : List (S78))).bind fun y302 => ((some (y302.set (x16 : Int).toNat (⟨(rd_T78 y302 x16).f0, (rd_T78 y302 x16).f1, (rd_T78 y302 x16).f2, wrap64 (((rd_T78 y302 x16).f3) + x5), (rd_T78 y302 x16).f4, (rd_T78 y302 x16).f5⟩ : S78) : List (S78))).bind fun y304 => (if x3 = 1 then (spec_AddResult.j1 k x0 (y304.set (x15 : Int).toNat (⟨(rd_T78 y304 x15).f0, (rd_T78 y304 x15).f1, wrap64 (((rd_T78 y304 x15).f2) + 1), (rd_T78 y304 x15).f3, (rd_T78 y304 x15).f4, (rd_T78 y304 x15).f5⟩ : S78))) else (spec_AddResult.j1 k x0 (y304.set (x16 : Int).toNat (⟨(rd_T78 y304 x16).f0, (rd_T78 y304 x16).f1, wrap64 (((rd_T78 y304 x16).f2) + 1), (rd_T78 y304 x16).f3, (rd_T78 y304 x16).f4, (rd_T78 y304 x16).f5⟩ : S78)))))))) else (none)) else (none)) else (none))) else (none)) else (none)) else (none))
def spec_AddResult.j1 : Nat → List (S78) → List (S78) → Option ((List (S78)) × Bool)
  | 0, _, _ => none
  | k + 1, x0, x14 => (spec_AreTeams.f k x14).bind fun t309 => (if t309 = true then (some (x14, true)) else ((spec_l19Copy.f k x0).bind fun t310 => (some (t310, false))))
end
def spec_AddResult.f (k : Nat) (l0 : List (S78)) (a1 : Int) (a2 : Int) (a3 : Int) (a4 : Int) (a5 : Int) : Option ((List (S78)) × Bool) := (spec_l19Copy.f k l0).bind fun t280 => ((spec_FindTeam.f k l0 a1).bind fun t283 => ((spec_FindTeam.f k l0 a2).bind fun t284 => ((spec_AreTeams.f k l0).bind fun t285 => (if t285 = true then (if t283 < 0 then (spec_AddResult.j0 k l0 a1 a2 a3 a4 a5 t280 t283 t284 true) else (if t284 < 0 then (spec_AddResult.j0 k l0 a1 a2 a3 a4 a5 t280 t283 t284 true) else (if t283 = t284 then (spec_AddResult.j0 k l0 a1 a2 a3 a4 a5 t280 t283 t284 true) else ((spec_l1In.f a3 1 2).bind fun t286 => (if t286 = true then ((spec_l1In.f a4 0 1000).bind fun t287 => (if t287 = true then ((spec_l1In.f a5 0 1000).bind fun t288 => (spec_AddResult.j0 k l0 a1 a2 a3 a4 a5 t280 t283 t284 (!t288))) else (spec_AddResult.j0 k l0 a1 a2 a3 a4 a5 t280 t283 t284 true))) else (spec_AddResult.j0 k l0 a1 a2 a3 a4 a5 t280 t283 t284 true)))))) else (spec_AddResult.j0 k l0 a1 a2 a3 a4 a5 t280 t283 t284 true)))))
set_option maxHeartbeats 8000000 in
set_option maxRecDepth 100000 in
theorem spec_AddResult.calls (k : Nat) (A0 : Option Addr) (c0 : Nat) (l0 : List (S78)) (a1 : Int) (a2 : Int) (a3 : Int) (a4 : Int) (a5 : Int) (r1 : List (S78)) (r2 : Bool) (w : World) (hr0 : Kd.C k78 w A0 l0.length l0) (hc0 : l0.length ≤ c0) (h : spec_AddResult.f k l0 a1 a2 a3 a4 a5 = some (r1, r2)) :
  Calls Try.prog 103 #[.slice A0 l0.length c0, .int .i64 a1, .int .i64 a2, .int .i64 a3, .int .i64 a4, .int .i64 a5] w fun e w' => ∃ v0_ : Value, e = .returned (.tuple #[v0_, .bool r2]) ∧ Kd.S k78 78 w' w.heap.size (fun _ => True) v0_ r1 ∧ Below w.heap.size w w' := by
 have HR0 := Aside0.mk hr0
 have HC0 := Aside0.mk hc0
 clear hr0 hc0
 have HB := Aside0.mk (Below.refl w.heap.size w)
 have H : ((spec_l19Copy.f k l0).bind fun t280 => ((spec_FindTeam.f k l0 a1).bind fun t283 => ((spec_FindTeam.f k l0 a2).bind fun t284 => ((spec_AreTeams.f k l0).bind fun t285 => (if t285 = true then (if t283 < 0 then (spec_AddResult.j0 k l0 a1 a2 a3 a4 a5 t280 t283 t284 true) else (if t284 < 0 then (spec_AddResult.j0 k l0 a1 a2 a3 a4 a5 t280 t283 t284 true) else (if t283 = t284 then (spec_AddResult.j0 k l0 a1 a2 a3 a4 a5 t280 t283 t284 true) else ((spec_l1In.f a3 1 2).bind fun t286 => (if t286 = true then ((spec_l1In.f a4 0 1000).bind fun t287 => (if t287 = true then ((spec_l1In.f a5 0 1000).bind fun t288 => (spec_AddResult.j0 k l0 a1 a2 a3 a4 a5 t280 t283 t284 (!t288))) else (spec_AddResult.j0 k l0 a1 a2 a3 a4 a5 t280 t283 t284 true))) else (spec_AddResult.j0 k l0 a1 a2 a3 a4 a5 t280 t283 t284 true)))))) else (spec_AddResult.j0 k l0 a1 a2 a3 a4 a5 t280 t283 t284 true)))))) = some (r1, r2) := h
 clear h
 replace H := Option.bind_eq_some_iff.mp H
 obtain ⟨t280, A70, H⟩ := H
 replace H : ((spec_FindTeam.f k l0 a1).bind fun t283 => ((spec_FindTeam.f k l0 a2).bind fun t284 => ((spec_AreTeams.f k l0).bind fun t285 => (if t285 = true then (if t283 < 0 then (spec_AddResult.j0 k l0 a1 a2 a3 a4 a5 t280 t283 t284 true) else (if t284 < 0 then (spec_AddResult.j0 k l0 a1 a2 a3 a4 a5 t280 t283 t284 true) else (if t283 = t284 then (spec_AddResult.j0 k l0 a1 a2 a3 a4 a5 t280 t283 t284 true) else ((spec_l1In.f a3 1 2).bind fun t286 => (if t286 = true then ((spec_l1In.f a4 0 1000).bind fun t287 => (if t287 = true then ((spec_l1In.f a5 0 1000).bind fun t288 => (spec_AddResult.j0 k l0 a1 a2 a3 a4 a5 t280 t283 t284 (!t288))) else (spec_AddResult.j0 k l0 a1 a2 a3 a4 a5 t280 t283 t284 true))) else (spec_AddResult.j0 k l0 a1 a2 a3 a4 a5 t280 t283 t284 true)))))) else (spec_AddResult.j0 k l0 a1 a2 a3 a4 a5 t280 t283 t284 true))))) = some (r1, r2) := H
 have A7 := Aside0.mk A70
 clear A70
 replace H := Option.bind_eq_some_iff.mp H
 obtain ⟨t283, A80, H⟩ := H
 replace H : ((spec_FindTeam.f k l0 a2).bind fun t284 => ((spec_AreTeams.f k l0).bind fun t285 => (if t285 = true then (if t283 < 0 then (spec_AddResult.j0 k l0 a1 a2 a3 a4 a5 t280 t283 t284 true) else (if t284 < 0 then (spec_AddResult.j0 k l0 a1 a2 a3 a4 a5 t280 t283 t284 true) else (if t283 = t284 then (spec_AddResult.j0 k l0 a1 a2 a3 a4 a5 t280 t283 t284 true) else ((spec_l1In.f a3 1 2).bind fun t286 => (if t286 = true then ((spec_l1In.f a4 0 1000).bind fun t287 => (if t287 = true then ((spec_l1In.f a5 0 1000).bind fun t288 => (spec_AddResult.j0 k l0 a1 a2 a3 a4 a5 t280 t283 t284 (!t288))) else (spec_AddResult.j0 k l0 a1 a2 a3 a4 a5 t280 t283 t284 true))) else (spec_AddResult.j0 k l0 a1 a2 a3 a4 a5 t280 t283 t284 true)))))) else (spec_AddResult.j0 k l0 a1 a2 a3 a4 a5 t280 t283 t284 true)))) = some (r1, r2) := H
 have A8 := Aside0.mk A80
 clear A80
 replace H := Option.bind_eq_some_iff.mp H
 obtain ⟨t284, A90, H⟩ := H
 replace H : ((spec_AreTeams.f k l0).bind fun t285 => (if t285 = true then (if t283 < 0 then (spec_AddResult.j0 k l0 a1 a2 a3 a4 a5 t280 t283 t284 true) else (if t284 < 0 then (spec_AddResult.j0 k l0 a1 a2 a3 a4 a5 t280 t283 t284 true) else (if t283 = t284 then (spec_AddResult.j0 k l0 a1 a2 a3 a4 a5 t280 t283 t284 true) else ((spec_l1In.f a3 1 2).bind fun t286 => (if t286 = true then ((spec_l1In.f a4 0 1000).bind fun t287 => (if t287 = true then ((spec_l1In.f a5 0 1000).bind fun t288 => (spec_AddResult.j0 k l0 a1 a2 a3 a4 a5 t280 t283 t284 (!t288))) else (spec_AddResult.j0 k l0 a1 a2 a3 a4 a5 t280 t283 t284 true))) else (spec_AddResult.j0 k l0 a1 a2 a3 a4 a5 t280 t283 t284 true)))))) else (spec_AddResult.j0 k l0 a1 a2 a3 a4 a5 t280 t283 t284 true))) = some (r1, r2) := H
 have A9 := Aside0.mk A90
 clear A90
 have HC10 := Aside0.mk H
 clear H
 go_enter Try.func103, Try.ntmps103
 go_upto_region 4 with (first | ((with_reducible refine gate_callee (f := 119) rfl ?_); refine goesL_ (some 18) rfl rfl Try.func119 (by kernel_rfl) rfl #[.slice A0 l0.length c0] rfl (by (try simp only [Y1, Y2, Y3]); first | done | rfl | (simp only [Y4, Y5]; rfl)) ?_; (with_reducible refine (spec_l19Copy.calls k _ _ l0 t280 _ ?side1 ?side2 A7.out).mono ?_); (case side1 => repeat (first | exact HR0.out | (with_reducible first | refine cA ?_ _ | refine cN ?_ _ | refine cD ?_))); (case side2 => exact HC0.out); rintro e w11 ⟨v281, rfl, ho0, hb⟩; refine ⟨_, rfl, ?_⟩; replace HO282 := Aside0.mk (Kd.S_lower ho0 (below_size (by repeat (first | (with_reducible first | exact HB.out | apply bA | apply bN | apply bD) | exact HB.out)))); replace HB := Aside0.mk (below_step (by repeat (first | (with_reducible first | exact HB.out | apply bA | apply bN | apply bD) | exact HB.out)) hb); (try clear hb); (try clear hb2); (try clear hk); (try clear hi); (try clear ho0)) | ((with_reducible refine gate_callee (f := 62) rfl ?_); refine goesL_ (some 21) rfl rfl Try.func62 (by kernel_rfl) rfl #[.slice A0 l0.length c0, .int .i64 a1] rfl (by (try simp only [Y1, Y2, Y3]); first | done | rfl | (simp only [Y4, Y5]; rfl)) ?_; (with_reducible refine (spec_FindTeam.calls k _ _ l0 a1 t283 _ ?side1 ?side2 A8.out).mono ?_); (case side1 => repeat (first | exact (Kd.C_below HR0.out HB.out) | (with_reducible first | refine cA ?_ _ | refine cN ?_ _ | refine cD ?_))); (case side2 => exact HC0.out); rintro e w' ⟨rfl, ⟨nd, rfl⟩⟩; refine ⟨_, rfl, ?_⟩) | ((with_reducible refine gate_callee (f := 62) rfl ?_); refine goesL_ (some 24) rfl rfl Try.func62 (by kernel_rfl) rfl #[.slice A0 l0.length c0, .int .i64 a2] rfl (by (try simp only [Y1, Y2, Y3]); first | done | rfl | (simp only [Y4, Y5]; rfl)) ?_; (with_reducible refine (spec_FindTeam.calls k _ _ l0 a2 t284 _ ?side1 ?side2 A9.out).mono ?_); (case side1 => repeat (first | exact (Kd.C_below HR0.out (by repeat (first | (with_reducible first | exact HB.out | apply bA | apply bN | apply bD) | exact HB.out))) | (with_reducible first | refine cA ?_ _ | refine cN ?_ _ | refine cD ?_))); (case side2 => exact HC0.out); rintro e w' ⟨rfl, ⟨nd, rfl⟩⟩; refine ⟨_, rfl, ?_⟩))
 (try simp only [Act.put, Z1, Z2, Z3])
 go_cut [55] (fun v55 wc => ∃ (kq : Nat) (x55_9 : Bool), v55 = .bool x55_9 ∧ Aside0 (spec_AddResult.j0 kq l0 a1 a2 a3 a4 a5 t280 t283 t284 x55_9 = some (r1, r2)) ∧ Aside0 (kq ≤ k) ∧ Aside0 (Kd.S k78 78 wc w.heap.size (fun _ => True) v281 t280) ∧ Aside0 (Below w.heap.size w wc))
 case first =>
  have H := HC10.out
  clear HC10
  replace H := Option.bind_eq_some_iff.mp H
  obtain ⟨t285, A120, H⟩ := H
  replace H : (if t285 = true then (if t283 < 0 then (spec_AddResult.j0 k l0 a1 a2 a3 a4 a5 t280 t283 t284 true) else (if t284 < 0 then (spec_AddResult.j0 k l0 a1 a2 a3 a4 a5 t280 t283 t284 true) else (if t283 = t284 then (spec_AddResult.j0 k l0 a1 a2 a3 a4 a5 t280 t283 t284 true) else ((spec_l1In.f a3 1 2).bind fun t286 => (if t286 = true then ((spec_l1In.f a4 0 1000).bind fun t287 => (if t287 = true then ((spec_l1In.f a5 0 1000).bind fun t288 => (spec_AddResult.j0 k l0 a1 a2 a3 a4 a5 t280 t283 t284 (!t288))) else (spec_AddResult.j0 k l0 a1 a2 a3 a4 a5 t280 t283 t284 true))) else (spec_AddResult.j0 k l0 a1 a2 a3 a4 a5 t280 t283 t284 true)))))) else (spec_AddResult.j0 k l0 a1 a2 a3 a4 a5 t280 t283 t284 true)) = some (r1, r2) := H
  have A12 := Aside0.mk A120
  clear A120
  by_cases c13 : t285 = true
  rotate_left
  ·
   replace c13 := Bool.eq_false_iff.mpr c13
   subst c13
   have H1 : (spec_AddResult.j0 k l0 a1 a2 a3 a4 a5 t280 t283 t284 true) = some (r1, r2) := by rw [if_neg (show ¬ (false = true) by decide)] at H; exact H
   clear H
   have H := H1
   clear H1
   have H' := Aside0.mk H
   clear H
   go_wp2_with (first | ((with_reducible refine gate_callee (f := 69) rfl ?_); refine goesL_ (some 26) rfl rfl Try.func69 (by kernel_rfl) rfl #[.slice A0 l0.length c0] rfl (by (try simp only [Y1, Y2, Y3]); first | done | rfl | (simp only [Y4, Y5]; rfl)) ?_; (with_reducible refine (spec_AreTeams.calls k _ _ l0 false _ ?side1 ?side2 A12.out).mono ?_); (case side1 => repeat (first | exact (Kd.C_below HR0.out HB.out) | (with_reducible first | refine cA ?_ _ | refine cN ?_ _ | refine cD ?_))); (case side2 => exact HC0.out); rintro e w28 ⟨rfl, hb⟩; refine ⟨_, rfl, ?_⟩; replace HO282 := Aside0.mk (Kd.S_below (by (with_reducible repeat (first | apply sA | apply sN | apply sD)); exact HO282.out) hb); replace HB := Aside0.mk (below_step (by repeat (first | (with_reducible first | exact HB.out | apply bA | apply bN | apply bD) | exact HB.out)) hb); (try clear hb); (try clear hb2); (try clear hk); (try clear hi)))
   go_meet
   case rel => exact ⟨_, (true), (by first | rfl | (simp; done) | (simp [*]; done)), H', ⟨by first | omega | exact Nat.le_refl _⟩, ⟨by (with_reducible repeat (first | apply sA | apply sN | apply sD)); exact HO282.out⟩, ⟨by repeat (first | (with_reducible first | exact HB.out | apply bA | apply bN | apply bD) | exact HB.out)⟩⟩
  subst c13
  have H1 : (if t283 < 0 then (spec_AddResult.j0 k l0 a1 a2 a3 a4 a5 t280 t283 t284 true) else (if t284 < 0 then (spec_AddResult.j0 k l0 a1 a2 a3 a4 a5 t280 t283 t284 true) else (if t283 = t284 then (spec_AddResult.j0 k l0 a1 a2 a3 a4 a5 t280 t283 t284 true) else ((spec_l1In.f a3 1 2).bind fun t286 => (if t286 = true then ((spec_l1In.f a4 0 1000).bind fun t287 => (if t287 = true then ((spec_l1In.f a5 0 1000).bind fun t288 => (spec_AddResult.j0 k l0 a1 a2 a3 a4 a5 t280 t283 t284 (!t288))) else (spec_AddResult.j0 k l0 a1 a2 a3 a4 a5 t280 t283 t284 true))) else (spec_AddResult.j0 k l0 a1 a2 a3 a4 a5 t280 t283 t284 true)))))) = some (r1, r2) := by rw [if_pos rfl] at H; exact H
  clear H
  have H := H1
  clear H1
  by_cases c14 : t283 < 0
  rotate_left
  ·
   rw [if_neg c14] at H
   have c14b0 : decide (t283 < 0) = false := decide_eq_false c14
   clear c14
   (first | rw [c14b0] | (simp only [i64_w, i32_w]; rw [c14b0]) | skip)
   by_cases c16 : t284 < 0
   rotate_left
   ·
    rw [if_neg c16] at H
    have c16b0 : decide (t284 < 0) = false := decide_eq_false c16
    clear c16
    by_cases c18 : t283 = t284
    rotate_left
    ·
     rw [if_neg c18] at H
     have c18b0 : (t283 == t284) = false := beq_eq_false_iff_ne.mpr c18
     have c18b1 : (t283 != t284) = true := bne_iff_ne.mpr c18
     replace H := Option.bind_eq_some_iff.mp H
     obtain ⟨t286, A200, H⟩ := H
     replace H : (if t286 = true then ((spec_l1In.f a4 0 1000).bind fun t287 => (if t287 = true then ((spec_l1In.f a5 0 1000).bind fun t288 => (spec_AddResult.j0 k l0 a1 a2 a3 a4 a5 t280 t283 t284 (!t288))) else (spec_AddResult.j0 k l0 a1 a2 a3 a4 a5 t280 t283 t284 true))) else (spec_AddResult.j0 k l0 a1 a2 a3 a4 a5 t280 t283 t284 true)) = some (r1, r2) := H
     have A20 := Aside0.mk A200
     clear A200
     by_cases c21 : t286 = true
     rotate_left
     ·
      replace c21 := Bool.eq_false_iff.mpr c21
      subst c21
      have H1 : (spec_AddResult.j0 k l0 a1 a2 a3 a4 a5 t280 t283 t284 true) = some (r1, r2) := by rw [if_neg (show ¬ (false = true) by decide)] at H; exact H
      clear H
      have H := H1
      clear H1
      have H' := Aside0.mk H
      clear H
      go_wp2_with (first | ((with_reducible refine gate_callee (f := 69) rfl ?_); refine goesL_ (some 26) rfl rfl Try.func69 (by kernel_rfl) rfl #[.slice A0 l0.length c0] rfl (by (try simp only [Y1, Y2, Y3]); first | done | rfl | (simp only [Y4, Y5]; rfl)) ?_; (with_reducible refine (spec_AreTeams.calls k _ _ l0 true _ ?side1 ?side2 A12.out).mono ?_); (case side1 => repeat (first | exact (Kd.C_below HR0.out HB.out) | (with_reducible first | refine cA ?_ _ | refine cN ?_ _ | refine cD ?_))); (case side2 => exact HC0.out); rintro e w27 ⟨rfl, hb⟩; refine ⟨_, rfl, ?_⟩; replace HO282 := Aside0.mk (Kd.S_below (by (with_reducible repeat (first | apply sA | apply sN | apply sD)); exact HO282.out) hb); replace HB := Aside0.mk (below_step (by repeat (first | (with_reducible first | exact HB.out | apply bA | apply bN | apply bD) | exact HB.out)) hb); (try clear hb); (try clear hb2); (try clear hk); (try clear hi)) | (go_at_call 56; (with_reducible refine (spec_l1In.calls a3 1 2 false _ A20.out).mono ?_); rintro e w' ⟨rfl, ⟨nd, rfl⟩⟩))
      go_meet
      case rel => exact ⟨_, (true), (by first | rfl | (simp; done) | (simp [*]; done)), H', ⟨by first | omega | exact Nat.le_refl _⟩, ⟨by (with_reducible repeat (first | apply sA | apply sN | apply sD)); exact HO282.out⟩, ⟨by repeat (first | (with_reducible first | exact HB.out | apply bA | apply bN | apply bD) | exact HB.out)⟩⟩
     subst c21
     have H1 : ((spec_l1In.f a4 0 1000).bind fun t287 => (if t287 = true then ((spec_l1In.f a5 0 1000).bind fun t288 => (spec_AddResult.j0 k l0 a1 a2 a3 a4 a5 t280 t283 t284 (!t288))) else (spec_AddResult.j0 k l0 a1 a2 a3 a4 a5 t280 t283 t284 true))) = some (r1, r2) := by rw [if_pos rfl] at H; exact H
     clear H
     have H := H1
     clear H1
     replace H := Option.bind_eq_some_iff.mp H
     obtain ⟨t287, A220, H⟩ := H
     replace H : (if t287 = true then ((spec_l1In.f a5 0 1000).bind fun t288 => (spec_AddResult.j0 k l0 a1 a2 a3 a4 a5 t280 t283 t284 (!t288))) else (spec_AddResult.j0 k l0 a1 a2 a3 a4 a5 t280 t283 t284 true)) = some (r1, r2) := H
     have A22 := Aside0.mk A220
     clear A220
     by_cases c23 : t287 = true
     rotate_left
     ·
      replace c23 := Bool.eq_false_iff.mpr c23
      subst c23
      have H1 : (spec_AddResult.j0 k l0 a1 a2 a3 a4 a5 t280 t283 t284 true) = some (r1, r2) := by rw [if_neg (show ¬ (false = true) by decide)] at H; exact H
      clear H
      have H := H1
      clear H1
      have H' := Aside0.mk H
      clear H
      go_wp2_with (first | ((with_reducible refine gate_callee (f := 69) rfl ?_); refine goesL_ (some 26) rfl rfl Try.func69 (by kernel_rfl) rfl #[.slice A0 l0.length c0] rfl (by (try simp only [Y1, Y2, Y3]); first | done | rfl | (simp only [Y4, Y5]; rfl)) ?_; (with_reducible refine (spec_AreTeams.calls k _ _ l0 true _ ?side1 ?side2 A12.out).mono ?_); (case side1 => repeat (first | exact (Kd.C_below HR0.out HB.out) | (with_reducible first | refine cA ?_ _ | refine cN ?_ _ | refine cD ?_))); (case side2 => exact HC0.out); rintro e w26 ⟨rfl, hb⟩; refine ⟨_, rfl, ?_⟩; replace HO282 := Aside0.mk (Kd.S_below (by (with_reducible repeat (first | apply sA | apply sN | apply sD)); exact HO282.out) hb); replace HB := Aside0.mk (below_step (by repeat (first | (with_reducible first | exact HB.out | apply bA | apply bN | apply bD) | exact HB.out)) hb); (try clear hb); (try clear hb2); (try clear hk); (try clear hi)) | (go_at_call 56; (with_reducible refine (spec_l1In.calls a3 1 2 true _ A20.out).mono ?_); rintro e w' ⟨rfl, ⟨nd, rfl⟩⟩) | (go_at_call 56; (with_reducible refine (spec_l1In.calls a4 0 1000 false _ A22.out).mono ?_); rintro e w' ⟨rfl, ⟨nd, rfl⟩⟩))
      go_meet
      case rel => exact ⟨_, (true), (by first | rfl | (simp; done) | (simp [*]; done)), H', ⟨by first | omega | exact Nat.le_refl _⟩, ⟨by (with_reducible repeat (first | apply sA | apply sN | apply sD)); exact HO282.out⟩, ⟨by repeat (first | (with_reducible first | exact HB.out | apply bA | apply bN | apply bD) | exact HB.out)⟩⟩
     subst c23
     have H1 : ((spec_l1In.f a5 0 1000).bind fun t288 => (spec_AddResult.j0 k l0 a1 a2 a3 a4 a5 t280 t283 t284 (!t288))) = some (r1, r2) := by rw [if_pos rfl] at H; exact H
     clear H
     have H := H1
     clear H1
     replace H := Option.bind_eq_some_iff.mp H
     obtain ⟨t288, A240, H⟩ := H
     replace H : (spec_AddResult.j0 k l0 a1 a2 a3 a4 a5 t280 t283 t284 (!t288)) = some (r1, r2) := H
     have A24 := Aside0.mk A240
     clear A240
     have H' := Aside0.mk H
     clear H
     go_wp2_with (first | ((with_reducible refine gate_callee (f := 69) rfl ?_); refine goesL_ (some 26) rfl rfl Try.func69 (by kernel_rfl) rfl #[.slice A0 l0.length c0] rfl (by (try simp only [Y1, Y2, Y3]); first | done | rfl | (simp only [Y4, Y5]; rfl)) ?_; (with_reducible refine (spec_AreTeams.calls k _ _ l0 true _ ?side1 ?side2 A12.out).mono ?_); (case side1 => repeat (first | exact (Kd.C_below HR0.out HB.out) | (with_reducible first | refine cA ?_ _ | refine cN ?_ _ | refine cD ?_))); (case side2 => exact HC0.out); rintro e w25 ⟨rfl, hb⟩; refine ⟨_, rfl, ?_⟩; replace HO282 := Aside0.mk (Kd.S_below (by (with_reducible repeat (first | apply sA | apply sN | apply sD)); exact HO282.out) hb); replace HB := Aside0.mk (below_step (by repeat (first | (with_reducible first | exact HB.out | apply bA | apply bN | apply bD) | exact HB.out)) hb); (try clear hb); (try clear hb2); (try clear hk); (try clear hi)) | (go_at_call 56; (with_reducible refine (spec_l1In.calls a3 1 2 true _ A20.out).mono ?_); rintro e w' ⟨rfl, ⟨nd, rfl⟩⟩) | (go_at_call 56; (with_reducible refine (spec_l1In.calls a4 0 1000 true _ A22.out).mono ?_); rintro e w' ⟨rfl, ⟨nd, rfl⟩⟩) | (go_at_call 56; (with_reducible refine (spec_l1In.calls a5 0 1000 t288 _ A24.out).mono ?_); rintro e w' ⟨rfl, ⟨nd, rfl⟩⟩))
     go_meet
     case rel => exact ⟨_, (!t288), (by first | rfl | (simp; done) | (simp [*]; done)), H', ⟨by first | omega | exact Nat.le_refl _⟩, ⟨by (with_reducible repeat (first | apply sA | apply sN | apply sD)); exact HO282.out⟩, ⟨by repeat (first | (with_reducible first | exact HB.out | apply bA | apply bN | apply bD) | exact HB.out)⟩⟩
    rw [if_pos c18] at H
    have c18b0 : (t283 == t284) = true := beq_iff_eq.mpr c18
    have c18b1 : (t283 != t284) = false := bne_eq_false_iff_eq.mpr c18
    clear c18
    have H' := Aside0.mk H
    clear H
    go_wp2_with (first | ((with_reducible refine gate_callee (f := 69) rfl ?_); refine goesL_ (some 26) rfl rfl Try.func69 (by kernel_rfl) rfl #[.slice A0 l0.length c0] rfl (by (try simp only [Y1, Y2, Y3]); first | done | rfl | (simp only [Y4, Y5]; rfl)) ?_; (with_reducible refine (spec_AreTeams.calls k _ _ l0 true _ ?side1 ?side2 A12.out).mono ?_); (case side1 => repeat (first | exact (Kd.C_below HR0.out HB.out) | (with_reducible first | refine cA ?_ _ | refine cN ?_ _ | refine cD ?_))); (case side2 => exact HC0.out); rintro e w19 ⟨rfl, hb⟩; refine ⟨_, rfl, ?_⟩; replace HO282 := Aside0.mk (Kd.S_below (by (with_reducible repeat (first | apply sA | apply sN | apply sD)); exact HO282.out) hb); replace HB := Aside0.mk (below_step (by repeat (first | (with_reducible first | exact HB.out | apply bA | apply bN | apply bD) | exact HB.out)) hb); (try clear hb); (try clear hb2); (try clear hk); (try clear hi)))
    go_meet
    case rel => exact ⟨_, (true), (by first | rfl | (simp; done) | (simp [*]; done)), H', ⟨by first | omega | exact Nat.le_refl _⟩, ⟨by (with_reducible repeat (first | apply sA | apply sN | apply sD)); exact HO282.out⟩, ⟨by repeat (first | (with_reducible first | exact HB.out | apply bA | apply bN | apply bD) | exact HB.out)⟩⟩
   rw [if_pos c16] at H
   have c16b0 : decide (t284 < 0) = true := decide_eq_true c16
   clear c16
   have H' := Aside0.mk H
   clear H
   go_wp2_with (first | ((with_reducible refine gate_callee (f := 69) rfl ?_); refine goesL_ (some 26) rfl rfl Try.func69 (by kernel_rfl) rfl #[.slice A0 l0.length c0] rfl (by (try simp only [Y1, Y2, Y3]); first | done | rfl | (simp only [Y4, Y5]; rfl)) ?_; (with_reducible refine (spec_AreTeams.calls k _ _ l0 true _ ?side1 ?side2 A12.out).mono ?_); (case side1 => repeat (first | exact (Kd.C_below HR0.out HB.out) | (with_reducible first | refine cA ?_ _ | refine cN ?_ _ | refine cD ?_))); (case side2 => exact HC0.out); rintro e w17 ⟨rfl, hb⟩; refine ⟨_, rfl, ?_⟩; replace HO282 := Aside0.mk (Kd.S_below (by (with_reducible repeat (first | apply sA | apply sN | apply sD)); exact HO282.out) hb); replace HB := Aside0.mk (below_step (by repeat (first | (with_reducible first | exact HB.out | apply bA | apply bN | apply bD) | exact HB.out)) hb); (try clear hb); (try clear hb2); (try clear hk); (try clear hi)))
   go_meet
   case rel => exact ⟨_, (true), (by first | rfl | (simp; done) | (simp [*]; done)), H', ⟨by first | omega | exact Nat.le_refl _⟩, ⟨by (with_reducible repeat (first | apply sA | apply sN | apply sD)); exact HO282.out⟩, ⟨by repeat (first | (with_reducible first | exact HB.out | apply bA | apply bN | apply bD) | exact HB.out)⟩⟩
  rw [if_pos c14] at H
  have c14b0 : decide (t283 < 0) = true := decide_eq_true c14
  clear c14
  (first | rw [c14b0] | (simp only [i64_w, i32_w]; rw [c14b0]) | skip)
  have H' := Aside0.mk H
  clear H
  go_wp2_with (first | ((with_reducible refine gate_callee (f := 69) rfl ?_); refine goesL_ (some 26) rfl rfl Try.func69 (by kernel_rfl) rfl #[.slice A0 l0.length c0] rfl (by (try simp only [Y1, Y2, Y3]); first | done | rfl | (simp only [Y4, Y5]; rfl)) ?_; (with_reducible refine (spec_AreTeams.calls k _ _ l0 true _ ?side1 ?side2 A12.out).mono ?_); (case side1 => repeat (first | exact (Kd.C_below HR0.out HB.out) | (with_reducible first | refine cA ?_ _ | refine cN ?_ _ | refine cD ?_))); (case side2 => exact HC0.out); rintro e w15 ⟨rfl, hb⟩; refine ⟨_, rfl, ?_⟩; replace HO282 := Aside0.mk (Kd.S_below (by (with_reducible repeat (first | apply sA | apply sN | apply sD)); exact HO282.out) hb); replace HB := Aside0.mk (below_step (by repeat (first | (with_reducible first | exact HB.out | apply bA | apply bN | apply bD) | exact HB.out)) hb); (try clear hb); (try clear hb2); (try clear hk); (try clear hi)))
  go_meet
  case rel => exact ⟨_, (true), (by first | rfl | (simp; done) | (simp [*]; done)), H', ⟨by first | omega | exact Nat.le_refl _⟩, ⟨by (with_reducible repeat (first | apply sA | apply sN | apply sD)); exact HO282.out⟩, ⟨by repeat (first | (with_reducible first | exact HB.out | apply bA | apply bN | apply bD) | exact HB.out)⟩⟩
 case rest =>
  clear HC10
  try clear c1
  try clear c2
  try clear p2
  try clear c6
  try clear c10
  try clear c11
  try clear c13
  try clear c14
  try clear c14b0
  try clear c16
  try clear c16b0
  try clear c18
  try clear c18b0
  try clear c18b1
  try clear c21
  try clear c23
  obtain ⟨kq, x55_9, rfl, HA, HJ9, HO_14, HB⟩ := hcut
  cases kq with
  | zero => exact absurd HA.out (by simp [spec_AddResult.j0])
  | succ kj9 =>
   have H := HA.out
   clear HA
   simp only [spec_AddResult.j0] at H
   by_cases c29 : x55_9 = true
   rotate_left
   ·
    replace c29 := Bool.eq_false_iff.mpr c29
    subst c29
    have H1 : (if 0 ≤ t283 then (if t283 < (t280.length : Int) then (if ((rd_T78 t280 t283).f5).length < 17592186044416 then ((some (t280.set (t283 : Int).toNat (⟨(rd_T78 t280 t283).f0, (rd_T78 t280 t283).f1, (rd_T78 t280 t283).f2, (rd_T78 t280 t283).f3, (rd_T78 t280 t283).f4, (((rd_T78 t280 t283).f5) ++ [a2])⟩ : S78) : List (S78))).bind fun y293 => (if 0 ≤ t284 then (if t284 < (t280.length : Int) then (if ((rd_T78 y293 t284).f5).length < 17592186044416 then ((some (y293.set (t284 : Int).toNat (⟨(rd_T78 y293 t284).f0, (rd_T78 y293 t284).f1, (rd_T78 y293 t284).f2, (rd_T78 y293 t284).f3, (rd_T78 y293 t284).f4, (((rd_T78 y293 t284).f5) ++ [a1])⟩ : S78) : List (S78))).bind fun y298 => ((some (y298.set (t283 : Int).toNat (⟨(rd_T78 y298 t283).f0, (rd_T78 y298 t283).f1, (rd_T78 y298 t283).f2, (rd_T78 y298 t283).f3, wrap64 (((rd_T78 y298 t283).f4) + 1), (rd_T78 y298 t283).f5⟩ : S78) : List (S78))).bind fun y300 => ((some (y300.set (t283 : Int).toNat (⟨(rd_T78 y300 t283).f0, (rd_T78 y300 t283).f1, (rd_T78 y300 t283).f2, wrap64 (((rd_T78 y300 t283).f3) + a4), (rd_T78 y300 t283).f4, (rd_T78 y300 t283).f5⟩ : S78) : List (S78))).bind fun y302 => ((some (y302.set (t284 : Int).toNat (⟨(rd_T78 y302 t284).f0, (rd_T78 y302 t284).f1, (rd_T78 y302 t284).f2, wrap64 (((rd_T78 y302 t284).f3) + a5), (rd_T78 y302 t284).f4, (rd_T78 y302 t284).f5⟩ : S78) : List (S78))).bind fun y304 => (if a3 = 1 then (spec_AddResult.j1 kj9 l0 (y304.set (t283 : Int).toNat (⟨(rd_T78 y304 t283).f0, (rd_T78 y304 t283).f1, wrap64 (((rd_T78 y304 t283).f2) + 1), (rd_T78 y304 t283).f3, (rd_T78 y304 t283).f4, (rd_T78 y304 t283).f5⟩ : S78))) else (spec_AddResult.j1 kj9 l0 (y304.set (t284 : Int).toNat (⟨(rd_T78 y304 t284).f0, (rd_T78 y304 t284).f1, wrap64 (((rd_T78 y304 t284).f2) + 1), (rd_T78 y304 t284).f3, (rd_T78 y304 t284).f4, (rd_T78 y304 t284).f5⟩ : S78)))))))) else (none)) else (none)) else (none))) else (none)) else (none)) else (none)) = some (r1, r2) := by rw [if_neg (show ¬ (false = true) by decide)] at H; exact H
    clear H
    have H := H1
    clear H1
    by_cases c30 : 0 ≤ t283
    rotate_left
    ·
     rw [if_neg c30] at H
     exact absurd H (by simp)

    rw [if_pos c30] at H
    have c30b0 : decide (0 ≤ t283) = true := decide_eq_true c30
    clear c30
    by_cases c31 : t283 < (t280.length : Int)
    rotate_left
    ·
     rw [if_neg c31] at H
     exact absurd H (by simp)
    rw [if_pos c31] at H
    have c31b0 : decide (t283 < (t280.length : Int)) = true := decide_eq_true c31
    clear c31
    by_cases c32 : ((rd_T78 t280 t283).f5).length < 17592186044416
    rotate_left
    ·
     rw [if_neg c32] at H
     exact absurd H (by simp)
    rw [if_pos c32] at H
    have LMc32 := Aside0.mk c32
    clear c32
    obtain ⟨y290, hy290⟩ : ∃ y_ : List Int, y_ = (((rd_T78 t280 t283).f5) ++ [a2]) := ⟨_, rfl⟩
    replace H : ((some (t280.set (t283 : Int).toNat (⟨(rd_T78 t280 t283).f0, (rd_T78 t280 t283).f1, (rd_T78 t280 t283).f2, (rd_T78 t280 t283).f3, (rd_T78 t280 t283).f4, y290⟩ : S78) : List (S78))).bind fun y293 => (if 0 ≤ t284 then (if t284 < (t280.length : Int) then (if ((rd_T78 y293 t284).f5).length < 17592186044416 then ((some (y293.set (t284 : Int).toNat (⟨(rd_T78 y293 t284).f0, (rd_T78 y293 t284).f1, (rd_T78 y293 t284).f2, (rd_T78 y293 t284).f3, (rd_T78 y293 t284).f4, (((rd_T78 y293 t284).f5) ++ [a1])⟩ : S78) : List (S78))).bind fun y298 => ((some (y298.set (t283 : Int).toNat (⟨(rd_T78 y298 t283).f0, (rd_T78 y298 t283).f1, (rd_T78 y298 t283).f2, (rd_T78 y298 t283).f3, wrap64 (((rd_T78 y298 t283).f4) + 1), (rd_T78 y298 t283).f5⟩ : S78) : List (S78))).bind fun y300 => ((some (y300.set (t283 : Int).toNat (⟨(rd_T78 y300 t283).f0, (rd_T78 y300 t283).f1, (rd_T78 y300 t283).f2, wrap64 (((rd_T78 y300 t283).f3) + a4), (rd_T78 y300 t283).f4, (rd_T78 y300 t283).f5⟩ : S78) : List (S78))).bind fun y302 => ((some (y302.set (t284 : Int).toNat (⟨(rd_T78 y302 t284).f0, (rd_T78 y302 t284).f1, (rd_T78 y302 t284).f2, wrap64 (((rd_T78 y302 t284).f3) + a5), (rd_T78 y302 t284).f4, (rd_T78 y302 t284).f5⟩ : S78) : List (S78))).bind fun y304 => (if a3 = 1 then (spec_AddResult.j1 kj9 l0 (y304.set (t283 : Int).toNat (⟨(rd_T78 y304 t283).f0, (rd_T78 y304 t283).f1, wrap64 (((rd_T78 y304 t283).f2) + 1), (rd_T78 y304 t283).f3, (rd_T78 y304 t283).f4, (rd_T78 y304 t283).f5⟩ : S78))) else (spec_AddResult.j1 kj9 l0 (y304.set (t284 : Int).toNat (⟨(rd_T78 y304 t284).f0, (rd_T78 y304 t284).f1, wrap64 (((rd_T78 y304 t284).f2) + 1), (rd_T78 y304 t284).f3, (rd_T78 y304 t284).f4, (rd_T78 y304 t284).f5⟩ : S78)))))))) else (none)) else (none)) else (none))) = some (r1, r2) := by first | (rw [hy290]; with_reducible exact H) | (have H2_ := (Option.bind_some _ _).symm.trans H; rw [hy290]; with_reducible exact H2_) | (have H2_ := (Option.bind_some _ _).symm.trans H; with_reducible exact H2_) | with_reducible exact H | (rw [hy290]; exact H) | exact H
    have Ny290 := Aside0.mk hy290
    clear hy290
    obtain ⟨y293, hy293⟩ : ∃ y_ : List (S78), y_ = (t280.set (t283 : Int).toNat (⟨(rd_T78 t280 t283).f0, (rd_T78 t280 t283).f1, (rd_T78 t280 t283).f2, (rd_T78 t280 t283).f3, (rd_T78 t280 t283).f4, y290⟩ : S78)) := ⟨_, rfl⟩
    replace H : (if 0 ≤ t284 then (if t284 < (t280.length : Int) then (if ((rd_T78 y293 t284).f5).length < 17592186044416 then ((some (y293.set (t284 : Int).toNat (⟨(rd_T78 y293 t284).f0, (rd_T78 y293 t284).f1, (rd_T78 y293 t284).f2, (rd_T78 y293 t284).f3, (rd_T78 y293 t284).f4, (((rd_T78 y293 t284).f5) ++ [a1])⟩ : S78) : List (S78))).bind fun y298 => ((some (y298.set (t283 : Int).toNat (⟨(rd_T78 y298 t283).f0, (rd_T78 y298 t283).f1, (rd_T78 y298 t283).f2, (rd_T78 y298 t283).f3, wrap64 (((rd_T78 y298 t283).f4) + 1), (rd_T78 y298 t283).f5⟩ : S78) : List (S78))).bind fun y300 => ((some (y300.set (t283 : Int).toNat (⟨(rd_T78 y300 t283).f0, (rd_T78 y300 t283).f1, (rd_T78 y300 t283).f2, wrap64 (((rd_T78 y300 t283).f3) + a4), (rd_T78 y300 t283).f4, (rd_T78 y300 t283).f5⟩ : S78) : List (S78))).bind fun y302 => ((some (y302.set (t284 : Int).toNat (⟨(rd_T78 y302 t284).f0, (rd_T78 y302 t284).f1, (rd_T78 y302 t284).f2, wrap64 (((rd_T78 y302 t284).f3) + a5), (rd_T78 y302 t284).f4, (rd_T78 y302 t284).f5⟩ : S78) : List (S78))).bind fun y304 => (if a3 = 1 then (spec_AddResult.j1 kj9 l0 (y304.set (t283 : Int).toNat (⟨(rd_T78 y304 t283).f0, (rd_T78 y304 t283).f1, wrap64 (((rd_T78 y304 t283).f2) + 1), (rd_T78 y304 t283).f3, (rd_T78 y304 t283).f4, (rd_T78 y304 t283).f5⟩ : S78))) else (spec_AddResult.j1 kj9 l0 (y304.set (t284 : Int).toNat (⟨(rd_T78 y304 t284).f0, (rd_T78 y304 t284).f1, wrap64 (((rd_T78 y304 t284).f2) + 1), (rd_T78 y304 t284).f3, (rd_T78 y304 t284).f4, (rd_T78 y304 t284).f5⟩ : S78)))))))) else (none)) else (none)) else (none)) = some (r1, r2) := by first | (rw [hy293]; with_reducible exact H) | (have H2_ := (Option.bind_some _ _).symm.trans H; rw [hy293]; with_reducible exact H2_) | (have H2_ := (Option.bind_some _ _).symm.trans H; with_reducible exact H2_) | with_reducible exact H | (rw [hy293]; exact H) | exact H
    have Ny293 := Aside0.mk hy293
    clear hy293
    by_cases c34 : 0 ≤ t284
    rotate_left
    ·
     rw [if_neg c34] at H
     exact absurd H (by simp)
    rw [if_pos c34] at H
    have c34b0 : decide (0 ≤ t284) = true := decide_eq_true c34
    clear c34
    by_cases c35 : t284 < (t280.length : Int)
    rotate_left
    ·
     rw [if_neg c35] at H
     exact absurd H (by simp)
    rw [if_pos c35] at H
    have c35b0 : decide (t284 < (t280.length : Int)) = true := decide_eq_true c35
    clear c35
    by_cases c36 : ((rd_T78 y293 t284).f5).length < 17592186044416
    rotate_left
    ·
     rw [if_neg c36] at H
     exact absurd H (by simp)
    rw [if_pos c36] at H
    have LMc36 := Aside0.mk c36
    clear c36
    obtain ⟨y295, hy295⟩ : ∃ y_ : List Int, y_ = (((rd_T78 y293 t284).f5) ++ [a1]) := ⟨_, rfl⟩
    replace H : ((some (y293.set (t284 : Int).toNat (⟨(rd_T78 y293 t284).f0, (rd_T78 y293 t284).f1, (rd_T78 y293 t284).f2, (rd_T78 y293 t284).f3, (rd_T78 y293 t284).f4, y295⟩ : S78) : List (S78))).bind fun y298 => ((some (y298.set (t283 : Int).toNat (⟨(rd_T78 y298 t283).f0, (rd_T78 y298 t283).f1, (rd_T78 y298 t283).f2, (rd_T78 y298 t283).f3, wrap64 (((rd_T78 y298 t283).f4) + 1), (rd_T78 y298 t283).f5⟩ : S78) : List (S78))).bind fun y300 => ((some (y300.set (t283 : Int).toNat (⟨(rd_T78 y300 t283).f0, (rd_T78 y300 t283).f1, (rd_T78 y300 t283).f2, wrap64 (((rd_T78 y300 t283).f3) + a4), (rd_T78 y300 t283).f4, (rd_T78 y300 t283).f5⟩ : S78) : List (S78))).bind fun y302 => ((some (y302.set (t284 : Int).toNat (⟨(rd_T78 y302 t284).f0, (rd_T78 y302 t284).f1, (rd_T78 y302 t284).f2, wrap64 (((rd_T78 y302 t284).f3) + a5), (rd_T78 y302 t284).f4, (rd_T78 y302 t284).f5⟩ : S78) : List (S78))).bind fun y304 => (if a3 = 1 then (spec_AddResult.j1 kj9 l0 (y304.set (t283 : Int).toNat (⟨(rd_T78 y304 t283).f0, (rd_T78 y304 t283).f1, wrap64 (((rd_T78 y304 t283).f2) + 1), (rd_T78 y304 t283).f3, (rd_T78 y304 t283).f4, (rd_T78 y304 t283).f5⟩ : S78))) else (spec_AddResult.j1 kj9 l0 (y304.set (t284 : Int).toNat (⟨(rd_T78 y304 t284).f0, (rd_T78 y304 t284).f1, wrap64 (((rd_T78 y304 t284).f2) + 1), (rd_T78 y304 t284).f3, (rd_T78 y304 t284).f4, (rd_T78 y304 t284).f5⟩ : S78)))))))) = some (r1, r2) := by first | (rw [hy295]; with_reducible exact H) | (have H2_ := (Option.bind_some _ _).symm.trans H; rw [hy295]; with_reducible exact H2_) | (have H2_ := (Option.bind_some _ _).symm.trans H; with_reducible exact H2_) | with_reducible exact H | (rw [hy295]; exact H) | exact H
    have Ny295 := Aside0.mk hy295
    clear hy295
    obtain ⟨y298, hy298⟩ : ∃ y_ : List (S78), y_ = (y293.set (t284 : Int).toNat (⟨(rd_T78 y293 t284).f0, (rd_T78 y293 t284).f1, (rd_T78 y293 t284).f2, (rd_T78 y293 t284).f3, (rd_T78 y293 t284).f4, y295⟩ : S78)) := ⟨_, rfl⟩
    replace H : ((some (y298.set (t283 : Int).toNat (⟨(rd_T78 y298 t283).f0, (rd_T78 y298 t283).f1, (rd_T78 y298 t283).f2, (rd_T78 y298 t283).f3, wrap64 (((rd_T78 y298 t283).f4) + 1), (rd_T78 y298 t283).f5⟩ : S78) : List (S78))).bind fun y300 => ((some (y300.set (t283 : Int).toNat (⟨(rd_T78 y300 t283).f0, (rd_T78 y300 t283).f1, (rd_T78 y300 t283).f2, wrap64 (((rd_T78 y300 t283).f3) + a4), (rd_T78 y300 t283).f4, (rd_T78 y300 t283).f5⟩ : S78) : List (S78))).bind fun y302 => ((some (y302.set (t284 : Int).toNat (⟨(rd_T78 y302 t284).f0, (rd_T78 y302 t284).f1, (rd_T78 y302 t284).f2, wrap64 (((rd_T78 y302 t284).f3) + a5), (rd_T78 y302 t284).f4, (rd_T78 y302 t284).f5⟩ : S78) : List (S78))).bind fun y304 => (if a3 = 1 then (spec_AddResult.j1 kj9 l0 (y304.set (t283 : Int).toNat (⟨(rd_T78 y304 t283).f0, (rd_T78 y304 t283).f1, wrap64 (((rd_T78 y304 t283).f2) + 1), (rd_T78 y304 t283).f3, (rd_T78 y304 t283).f4, (rd_T78 y304 t283).f5⟩ : S78))) else (spec_AddResult.j1 kj9 l0 (y304.set (t284 : Int).toNat (⟨(rd_T78 y304 t284).f0, (rd_T78 y304 t284).f1, wrap64 (((rd_T78 y304 t284).f2) + 1), (rd_T78 y304 t284).f3, (rd_T78 y304 t284).f4, (rd_T78 y304 t284).f5⟩ : S78))))))) = some (r1, r2) := by first | (rw [hy298]; with_reducible exact H) | (have H2_ := (Option.bind_some _ _).symm.trans H; rw [hy298]; with_reducible exact H2_) | (have H2_ := (Option.bind_some _ _).symm.trans H; with_reducible exact H2_) | with_reducible exact H | (rw [hy298]; exact H) | exact H
    have Ny298 := Aside0.mk hy298
    clear hy298
    obtain ⟨y300, hy300⟩ : ∃ y_ : List (S78), y_ = (y298.set (t283 : Int).toNat (⟨(rd_T78 y298 t283).f0, (rd_T78 y298 t283).f1, (rd_T78 y298 t283).f2, (rd_T78 y298 t283).f3, wrap64 (((rd_T78 y298 t283).f4) + 1), (rd_T78 y298 t283).f5⟩ : S78)) := ⟨_, rfl⟩
    replace H : ((some (y300.set (t283 : Int).toNat (⟨(rd_T78 y300 t283).f0, (rd_T78 y300 t283).f1, (rd_T78 y300 t283).f2, wrap64 (((rd_T78 y300 t283).f3) + a4), (rd_T78 y300 t283).f4, (rd_T78 y300 t283).f5⟩ : S78) : List (S78))).bind fun y302 => ((some (y302.set (t284 : Int).toNat (⟨(rd_T78 y302 t284).f0, (rd_T78 y302 t284).f1, (rd_T78 y302 t284).f2, wrap64 (((rd_T78 y302 t284).f3) + a5), (rd_T78 y302 t284).f4, (rd_T78 y302 t284).f5⟩ : S78) : List (S78))).bind fun y304 => (if a3 = 1 then (spec_AddResult.j1 kj9 l0 (y304.set (t283 : Int).toNat (⟨(rd_T78 y304 t283).f0, (rd_T78 y304 t283).f1, wrap64 (((rd_T78 y304 t283).f2) + 1), (rd_T78 y304 t283).f3, (rd_T78 y304 t283).f4, (rd_T78 y304 t283).f5⟩ : S78))) else (spec_AddResult.j1 kj9 l0 (y304.set (t284 : Int).toNat (⟨(rd_T78 y304 t284).f0, (rd_T78 y304 t284).f1, wrap64 (((rd_T78 y304 t284).f2) + 1), (rd_T78 y304 t284).f3, (rd_T78 y304 t284).f4, (rd_T78 y304 t284).f5⟩ : S78)))))) = some (r1, r2) := by first | (rw [hy300]; with_reducible exact H) | (have H2_ := (Option.bind_some _ _).symm.trans H; rw [hy300]; with_reducible exact H2_) | (have H2_ := (Option.bind_some _ _).symm.trans H; with_reducible exact H2_) | with_reducible exact H | (rw [hy300]; exact H) | exact H
    have Ny300 := Aside0.mk hy300
    clear hy300
    obtain ⟨y302, hy302⟩ : ∃ y_ : List (S78), y_ = (y300.set (t283 : Int).toNat (⟨(rd_T78 y300 t283).f0, (rd_T78 y300 t283).f1, (rd_T78 y300 t283).f2, wrap64 (((rd_T78 y300 t283).f3) + a4), (rd_T78 y300 t283).f4, (rd_T78 y300 t283).f5⟩ : S78)) := ⟨_, rfl⟩
    replace H : ((some (y302.set (t284 : Int).toNat (⟨(rd_T78 y302 t284).f0, (rd_T78 y302 t284).f1, (rd_T78 y302 t284).f2, wrap64 (((rd_T78 y302 t284).f3) + a5), (rd_T78 y302 t284).f4, (rd_T78 y302 t284).f5⟩ : S78) : List (S78))).bind fun y304 => (if a3 = 1 then (spec_AddResult.j1 kj9 l0 (y304.set (t283 : Int).toNat (⟨(rd_T78 y304 t283).f0, (rd_T78 y304 t283).f1, wrap64 (((rd_T78 y304 t283).f2) + 1), (rd_T78 y304 t283).f3, (rd_T78 y304 t283).f4, (rd_T78 y304 t283).f5⟩ : S78))) else (spec_AddResult.j1 kj9 l0 (y304.set (t284 : Int).toNat (⟨(rd_T78 y304 t284).f0, (rd_T78 y304 t284).f1, wrap64 (((rd_T78 y304 t284).f2) + 1), (rd_T78 y304 t284).f3, (rd_T78 y304 t284).f4, (rd_T78 y304 t284).f5⟩ : S78))))) = some (r1, r2) := by first | (rw [hy302]; with_reducible exact H) | (have H2_ := (Option.bind_some _ _).symm.trans H; rw [hy302]; with_reducible exact H2_) | (have H2_ := (Option.bind_some _ _).symm.trans H; with_reducible exact H2_) | with_reducible exact H | (rw [hy302]; exact H) | exact H
    have Ny302 := Aside0.mk hy302
    clear hy302
    obtain ⟨y304, hy304⟩ : ∃ y_ : List (S78), y_ = (y302.set (t284 : Int).toNat (⟨(rd_T78 y302 t284).f0, (rd_T78 y302 t284).f1, (rd_T78 y302 t284).f2, wrap64 (((rd_T78 y302 t284).f3) + a5), (rd_T78 y302 t284).f4, (rd_T78 y302 t284).f5⟩ : S78)) := ⟨_, rfl⟩
    replace H : (if a3 = 1 then (spec_AddResult.j1 kj9 l0 (y304.set (t283 : Int).toNat (⟨(rd_T78 y304 t283).f0, (rd_T78 y304 t283).f1, wrap64 (((rd_T78 y304 t283).f2) + 1), (rd_T78 y304 t283).f3, (rd_T78 y304 t283).f4, (rd_T78 y304 t283).f5⟩ : S78))) else (spec_AddResult.j1 kj9 l0 (y304.set (t284 : Int).toNat (⟨(rd_T78 y304 t284).f0, (rd_T78 y304 t284).f1, wrap64 (((rd_T78 y304 t284).f2) + 1), (rd_T78 y304 t284).f3, (rd_T78 y304 t284).f4, (rd_T78 y304 t284).f5⟩ : S78)))) = some (r1, r2) := by first | (rw [hy304]; with_reducible exact H) | (have H2_ := (Option.bind_some _ _).symm.trans H; rw [hy304]; with_reducible exact H2_) | (have H2_ := (Option.bind_some _ _).symm.trans H; with_reducible exact H2_) | with_reducible exact H | (rw [hy304]; exact H) | exact H
    have Ny304 := Aside0.mk hy304
    clear hy304
    have HC41 := Aside0.mk H
    clear H
    obtain ⟨Ao42, co42, eo42⟩ := Kd.S_slice HO_14.out
    subst eo42
    have p289 : 0 ≤ (t283 : Int) := od (by assumption)
    have q289 : t283 < (t280.length : Int) := od (by assumption)
    obtain ⟨ad289, A289_5, c289_5, e289, hx289_0, hx289_1, hx289_2, hx289_3, hx289_4, hx289_5, hl289_5, hi289_5⟩ := at_T78 (Kd.S_reads' HO_14.out).2.2 t283 p289 q289
    cases e289
    obtain ⟨ce289, hce289, hMe289, hcc289⟩ := Kd.S_get HO_14.out z78 t283 p289 (by first | exact q289 | exact od (by assumption) | (have e_ := (Kd.S_reads' HO_14.out).1; omega))
    obtain ⟨ve289_5, rfl, ge289_5⟩ := k78_openM hMe289
    have hv289_5 := hcc289 5 _ rfl
    rw [add_field _ _ 5 (by omega)] at hv289_5
    replace hv289_5 := Option.some.inj (hv289_5.symm.trans hx289_5)
    rw [hv289_5] at ge289_5
    have HL289_5 := Aside0.mk (show Kd.R (Kd.int .i64) 3 _ _ _ _ ((rd_T78 t280 t283).f5) from ge289_5)
    clear hv289_5 ge289_5
    have HX289_5 := Aside0.mk hx289_5
    clear hcc289 hce289
    have HR289_5 := Aside0.mk hi289_5
    have HC289_5 := Aside0.mk hl289_5
    clear hi289_5 hl289_5
    replace p289 := eq_true p289
    replace q289 := eq_true q289
    obtain ⟨go43, co43, eo43, gb43, gl43, cl43, HG43⟩ := Kd.S_form HO_14.out (by have h_ : (t283 : Int) < ((t280.length : Int) : Int) := od (by assumption); have h2_ : 0 ≤ (t283 : Int) := (od (by assumption)); omega)
    (first | cases eo43 | (injection eo43 with ea_ en_ ec_; (first | subst ea_ | (injection ea_ with ea_; subst ea_)); subst ec_; clear en_))
    have GB43 := Aside0.mk gb43
    have GG43 := Aside0.mk HG43
    clear gb43 gl43 HG43
    (first | simp only [add_plain] at hx289_0 | skip)
    (first | simp only [add_plain] at hx289_1 | skip)
    (first | simp only [add_plain] at hx289_2 | skip)
    (first | simp only [add_plain] at hx289_3 | skip)
    (first | simp only [add_plain] at hx289_4 | skip)
    (first | simp only [add_plain] at hx289_5 | skip)
    obtain ⟨oki43, ce43, hcl43, hM43, hcc43, _, _, hH43⟩ := Kd.S_elem HO_14.out z78 (t283 : Int) (od (by assumption)) (by have h_ : (t283 : Int) < ((t280.length : Int) : Int) := od (by assumption); first | exact h_ | (have e_ := (Kd.S_reads' HO_14.out).1; omega) | simpa using h_)
    obtain ⟨ve43_5, rfl, ge43_5⟩ := k78_openM hM43
    have hv43 := hcc43 5 _ rfl
    have hX43 := HX289_5.out
    (try simp only [add_plain] at hX43)
    (try simp only [Nat.add_zero] at hv43)
    replace hv43 := Option.some.inj (hv43.symm.trans hX43)
    subst hv43
    clear hX43 hcc43 hcl43
    have UU43 := Aside0.mk (show Kd.R (Kd.int .i64) 3 _ w.heap.size oki43 (.slice A289_5 ((rd_T78 t280 t283).f5).length c289_5) ((rd_T78 t280 t283).f5) from ge43_5)
    have HH43 := Aside0.mk hH43
    have HN43 := Aside0.mk (Kd.S_reads' HO_14.out).1
    clear hH43 ge43_5
    go_upto_if 114 with (first | ((with_reducible refine gate_builtin (b := .append) (xs := #[.tmp 63, .tmp 65]) rfl ?_); at_builtin; refine Kd.R_append (Kd.int .i64) (w0 := w) w.heap.size rfl (.tmp 63) (.tmp 65) 29 3 (.int .i64 0) 8 rfl Try.underlying29 info3 rfl (by decide) (by omega) (.slice A289_5 ((rd_T78 t280 t283).f5).length c289_5) ((rd_T78 t280 t283).f5) a2 [.int .i64 a2] (fun k_ => oki43 k_ ∨ ((fun _ => True)) k_ ∧ wc.heap.size ≤ k_) (fun _ => False) rfl rfl ?aP (fun _ hk => hk.elim) ?aF ?aO ?aB ?aS ?aL ?_; (case aP => exact rfl); (case aB => exact (by repeat (first | (with_reducible first | exact HB.out | apply bA | apply bN | apply bD) | exact HB.out))); (case aF => exact (fun k_ hk => .inr ⟨trivial, hk⟩)); (case aO => exact (by (with_reducible repeat (first | apply rA | apply rN | apply rD)); exact Kd.R_mono UU43.out (fun _ hk => .inl hk))); (case aS => exact (below_size (by repeat (first | (with_reducible first | exact HB.out | apply bA | apply bN | apply bD) | exact HB.out)))); (case aL => have := LMc32.out; omega); intro v291 w44 ho hb hg hat; rw [← Ny290.out] at ho; replace HB := Aside0.mk (hb); replace HH43 := Aside0.mk (Kd.H_grown (Kd.H_widen (by repeat (first | exact HH43.out | refine Kd.H_alloc ?_ _ | refine Kd.H_drewN ?_ _ | refine Kd.H_drew ?_))) hg (fun k_ e_ => .inl (UU43.out.1 k_ e_))); replace HO292 := Aside0.mk (ho); clear HL289_5; clear HO_14; clear UU43; clear ho hb hg hat; have p33 : 0 ≤ (t283 : Int) := od (by assumption); have q33 : (t283 : Int) < ((t280.length : Int) : Int) := od (by assumption); replace p33 := eq_true p33; replace q33 := eq_true q33; obtain ⟨Ao47, co47, eo47⟩ := Kd.R_slice HO292.out; subst eo47; obtain ⟨_, _, hraw45, _, _, hcc45, _⟩ := Kd.H_raw HH43.out (od (by assumption)) (by have h_ : (t283 : Int) < ((t280.length : Int) : Int) := od (by assumption); first | exact h_ | (have e_ := (HN43.out); omega) | simpa using h_); obtain ⟨_, hfr45⟩ := Kd.H_at HH43.out (od (by assumption)) (by have h_ : (t283 : Int) < ((t280.length : Int) : Int) := od (by assumption); first | exact h_ | (have e_ := (HN43.out); omega) | simpa using h_); have hx45_0 := hcc45 5 _ rfl; have hf45_0 := hfr45 5; (try rw [show (k78).sz = 6 from rfl] at hx45_0); (try rw [show (k78).sz = 6 from rfl] at hf45_0); have HP45 := Kd.S_seg0 HH43.out (od (by assumption)) (by have h_ : (t283 : Int) < ((t280.length : Int) : Int) := od (by assumption); first | exact h_ | (have e_ := (HN43.out); omega) | simpa using h_) (seg := [.slice Ao47 y290.length co47]) (j := 5) (show 6 ≤ 6 from by decide) (x' := (⟨(rd_T78 t280 t283).f0, (rd_T78 t280 t283).f1, (rd_T78 t280 t283).f2, (rd_T78 t280 t283).f3, (rd_T78 t280 t283).f4, y290⟩ : S78)) (k78_mkM _ _ _ (⟨(rd_T78 t280 t283).f0, (rd_T78 t280 t283).f1, (rd_T78 t280 t283).f2, (rd_T78 t280 t283).f3, (rd_T78 t280 t283).f4, y290⟩ : S78) HO292.out) (fun _ hk => hk); clear hcc45 hfr45) | ((with_reducible refine gate_store (t := 29) (p := 68) rfl ?_); refine store_event (t := 29) (p := 68) (v := ?vo_w46) (w1 := (w44.setCell ⟨go43, (t283 : Int).toNat * 6 + 5, none⟩ (.slice Ao47 y290.length co47))) ?hg ?ho ?hn ?hr ?_; (case ho => rfl); (case hg => rfl); (case hn => rfl); (case hr => first | (go_simp; done) | (go_simp; rfl)); intro w46 hw; have hg : w44.grownBy w46 (some go43) := (by rw [hw]; exact HP45.2); have hp_ : Kd.S k78 78 w46 w.heap.size (fun _ => True) (.slice (some ⟨go43, 0, none⟩) t280.length co42) y293 := (by rw [hw, Ny293.out]; exact HP45.1); clear HP45; replace HB := Aside0.mk ((by rw [hw]; exact below_set HB.out GB43.out : Below w.heap.size w w46)); replace HO_14 := Aside0.mk (hp_); clear HH43; clear HO292; clear hg hw hp_ hraw45; have p294 : 0 ≤ (t284 : Int) := od (by assumption); have q294 : t284 < (y293.length : Int) := (by have h_ : (t284 : Int) < ((t280.length : Int) : Int) := od (by assumption); first | (have e_ := (Kd.S_reads' HO_14.out).1; omega) | simpa only [Ny293.out, List.length_set] using h_); have ql294 : ((t284 : Int) < ((t280.length : Int) : Int)) = True := eq_true (od (by assumption)); obtain ⟨ad294, A294_5, c294_5, e294, hx294_0, hx294_1, hx294_2, hx294_3, hx294_4, hx294_5, hl294_5, hi294_5⟩ := at_T78 (Kd.S_reads' HO_14.out).2.2 t284 p294 q294; obtain rfl : (⟨go43, 0, none⟩ : Addr) = ad294 := (by injection e294); obtain ⟨ce294, hce294, hMe294, hcc294⟩ := Kd.S_get HO_14.out z78 t284 p294 (by first | exact q294 | exact od (by assumption) | (have e_ := (Kd.S_reads' HO_14.out).1; omega)); obtain ⟨ve294_5, rfl, ge294_5⟩ := k78_openM hMe294; have hv294_5 := hcc294 5 _ rfl; rw [add_field _ _ 5 (by omega)] at hv294_5; replace hv294_5 := Option.some.inj (hv294_5.symm.trans hx294_5); rw [hv294_5] at ge294_5; have HL294_5 := Aside0.mk (show Kd.R (Kd.int .i64) 3 _ _ _ _ ((rd_T78 y293 t284).f5) from ge294_5); clear hv294_5 ge294_5; have HX294_5 := Aside0.mk hx294_5; clear hcc294 hce294; (first | simp only [add_plain] at hx294_0 | simp only [add_at] at hx294_0 | simp only [Addr.add, Nat.zero_add] at hx294_0 | skip); (first | simp only [add_plain] at hx294_1 | simp only [add_at] at hx294_1 | simp only [Addr.add, Nat.zero_add] at hx294_1 | skip); (first | simp only [add_plain] at hx294_2 | simp only [add_at] at hx294_2 | simp only [Addr.add, Nat.zero_add] at hx294_2 | skip); (first | simp only [add_plain] at hx294_3 | simp only [add_at] at hx294_3 | simp only [Addr.add, Nat.zero_add] at hx294_3 | skip); (first | simp only [add_plain] at hx294_4 | simp only [add_at] at hx294_4 | simp only [Addr.add, Nat.zero_add] at hx294_4 | skip); (first | simp only [add_plain] at hx294_5 | simp only [add_at] at hx294_5 | simp only [Addr.add, Nat.zero_add] at hx294_5 | skip); have HR294_5 := Aside0.mk hi294_5; have HC294_5 := Aside0.mk hl294_5; clear hi294_5 hl294_5; replace p294 := eq_true p294; replace q294 := eq_true q294; obtain ⟨oki48, ce48, hcl48, hM48, hcc48, _, _, hH48⟩ := Kd.S_elem HO_14.out z78 (t284 : Int) (od (by assumption)) (by have h_ : (t284 : Int) < ((t280.length : Int) : Int) := od (by assumption); first | exact h_ | (have e_ := (Kd.S_reads' HO_14.out).1; omega) | simpa using h_); obtain ⟨ve48_5, rfl, ge48_5⟩ := k78_openM hM48; have hv48 := hcc48 5 _ rfl; have hX48 := HX294_5.out; (try simp only [add_plain] at hX48); (try simp only [Nat.add_zero] at hv48); replace hv48 := Option.some.inj (hv48.symm.trans hX48); subst hv48; clear hX48 hcc48 hcl48; have UU48 := Aside0.mk (show Kd.R (Kd.int .i64) 3 _ w.heap.size oki48 (.slice A294_5 ((rd_T78 y293 t284).f5).length c294_5) ((rd_T78 y293 t284).f5) from ge48_5); have HH48 := Aside0.mk hH48; have HN48 := Aside0.mk (Kd.S_reads' HO_14.out).1; clear hH48 ge48_5) | ((with_reducible refine gate_builtin (b := .append) (xs := #[.tmp 75, .tmp 77]) rfl ?_); at_builtin; refine Kd.R_append (Kd.int .i64) (w0 := w) w.heap.size rfl (.tmp 75) (.tmp 77) 29 3 (.int .i64 0) 8 rfl Try.underlying29 info3 rfl (by decide) (by omega) (.slice A294_5 ((rd_T78 y293 t284).f5).length c294_5) ((rd_T78 y293 t284).f5) a1 [.int .i64 a1] (fun k_ => oki48 k_ ∨ ((fun _ => True)) k_ ∧ w46.heap.size ≤ k_) (fun _ => False) rfl rfl ?aP (fun _ hk => hk.elim) ?aF ?aO ?aB ?aS ?aL ?_; (case aP => exact rfl); (case aB => exact (by repeat (first | (with_reducible first | exact HB.out | apply bA | apply bN | apply bD) | exact HB.out))); (case aF => exact (fun k_ hk => .inr ⟨trivial, hk⟩)); (case aO => exact (by (with_reducible repeat (first | apply rA | apply rN | apply rD)); exact Kd.R_mono UU48.out (fun _ hk => .inl hk))); (case aS => exact (below_size (by repeat (first | (with_reducible first | exact HB.out | apply bA | apply bN | apply bD) | exact HB.out)))); (case aL => have := LMc36.out; omega); intro v296 w49 ho hb hg hat; rw [← Ny295.out] at ho; replace HB := Aside0.mk (hb); replace HH48 := Aside0.mk (Kd.H_grown (Kd.H_widen (by repeat (first | exact HH48.out | refine Kd.H_alloc ?_ _ | refine Kd.H_drewN ?_ _ | refine Kd.H_drew ?_))) hg (fun k_ e_ => .inl (UU48.out.1 k_ e_))); replace HO297 := Aside0.mk (ho); clear UU48; clear HO_14; clear HL294_5; clear ho hb hg hat; have p37 : 0 ≤ (t284 : Int) := od (by assumption); have q37 : (t284 : Int) < ((t280.length : Int) : Int) := od (by assumption); replace p37 := eq_true p37; replace q37 := eq_true q37; obtain ⟨Ao52, co52, eo52⟩ := Kd.R_slice HO297.out; subst eo52; obtain ⟨_, _, hraw50, _, _, hcc50, _⟩ := Kd.H_raw HH48.out (od (by assumption)) (by have h_ : (t284 : Int) < ((t280.length : Int) : Int) := od (by assumption); first | exact h_ | (have e_ := (HN48.out); omega) | simpa using h_); obtain ⟨_, hfr50⟩ := Kd.H_at HH48.out (od (by assumption)) (by have h_ : (t284 : Int) < ((t280.length : Int) : Int) := od (by assumption); first | exact h_ | (have e_ := (HN48.out); omega) | simpa using h_); have hx50_0 := hcc50 5 _ rfl; have hf50_0 := hfr50 5; (try rw [show (k78).sz = 6 from rfl] at hx50_0); (try rw [show (k78).sz = 6 from rfl] at hf50_0); have HP50 := Kd.S_seg0 HH48.out (od (by assumption)) (by have h_ : (t284 : Int) < ((t280.length : Int) : Int) := od (by assumption); first | exact h_ | (have e_ := (HN48.out); omega) | simpa using h_) (seg := [.slice Ao52 y295.length co52]) (j := 5) (show 6 ≤ 6 from by decide) (x' := (⟨(rd_T78 y293 t284).f0, (rd_T78 y293 t284).f1, (rd_T78 y293 t284).f2, (rd_T78 y293 t284).f3, (rd_T78 y293 t284).f4, y295⟩ : S78)) (k78_mkM _ _ _ (⟨(rd_T78 y293 t284).f0, (rd_T78 y293 t284).f1, (rd_T78 y293 t284).f2, (rd_T78 y293 t284).f3, (rd_T78 y293 t284).f4, y295⟩ : S78) HO297.out) (fun _ hk => hk); clear hcc50 hfr50) | ((with_reducible refine gate_store (t := 29) (p := 80) rfl ?_); refine store_event (t := 29) (p := 80) (v := ?vo_w51) (w1 := (w49.setCell ⟨go43, (t284 : Int).toNat * 6 + 5, none⟩ (.slice Ao52 y295.length co52))) ?hg ?ho ?hn ?hr ?_; (case ho => rfl); (case hg => rfl); (case hn => rfl); (case hr => first | (go_simp; done) | (go_simp; rfl)); intro w51 hw; have hg : w49.grownBy w51 (some go43) := (by rw [hw]; exact HP50.2); have hp_ : Kd.S k78 78 w51 w.heap.size (fun _ => True) (.slice (some ⟨go43, 0, none⟩) t280.length co42) y298 := (by rw [hw, Ny298.out]; exact HP50.1); clear HP50; replace HB := Aside0.mk ((by rw [hw]; exact below_set HB.out GB43.out : Below w.heap.size w w51)); replace HO_14 := Aside0.mk (hp_); clear HH48; clear HO297; clear hg hw hp_ hraw50; have p299 : 0 ≤ (t283 : Int) := od (by assumption); have q299 : t283 < (y298.length : Int) := (by have h_ : (t283 : Int) < ((t280.length : Int) : Int) := od (by assumption); first | (have e_ := (Kd.S_reads' HO_14.out).1; omega) | simpa only [Ny293.out, Ny298.out, List.length_set] using h_); have ql299 : ((t283 : Int) < ((t280.length : Int) : Int)) = True := eq_true (od (by assumption)); obtain ⟨ad299, A299_5, c299_5, e299, hx299_0, hx299_1, hx299_2, hx299_3, hx299_4, hx299_5, hl299_5, hi299_5⟩ := at_T78 (Kd.S_reads' HO_14.out).2.2 t283 p299 q299; obtain rfl : (⟨go43, 0, none⟩ : Addr) = ad299 := (by injection e299); obtain ⟨ce299, hce299, hMe299, hcc299⟩ := Kd.S_get HO_14.out z78 t283 p299 (by first | exact q299 | exact od (by assumption) | (have e_ := (Kd.S_reads' HO_14.out).1; omega)); obtain ⟨ve299_5, rfl, ge299_5⟩ := k78_openM hMe299; have hv299_5 := hcc299 5 _ rfl; rw [add_field _ _ 5 (by omega)] at hv299_5; replace hv299_5 := Option.some.inj (hv299_5.symm.trans hx299_5); rw [hv299_5] at ge299_5; have HL299_5 := Aside0.mk (show Kd.R (Kd.int .i64) 3 _ _ _ _ ((rd_T78 y298 t283).f5) from ge299_5); clear hv299_5 ge299_5; have HX299_5 := Aside0.mk hx299_5; clear hcc299 hce299; (first | simp only [add_plain] at hx299_0 | simp only [add_at] at hx299_0 | simp only [Addr.add, Nat.zero_add] at hx299_0 | skip); (first | simp only [add_plain] at hx299_1 | simp only [add_at] at hx299_1 | simp only [Addr.add, Nat.zero_add] at hx299_1 | skip); (first | simp only [add_plain] at hx299_2 | simp only [add_at] at hx299_2 | simp only [Addr.add, Nat.zero_add] at hx299_2 | skip); (first | simp only [add_plain] at hx299_3 | simp only [add_at] at hx299_3 | simp only [Addr.add, Nat.zero_add] at hx299_3 | skip); (first | simp only [add_plain] at hx299_4 | simp only [add_at] at hx299_4 | simp only [Addr.add, Nat.zero_add] at hx299_4 | skip); (first | simp only [add_plain] at hx299_5 | simp only [add_at] at hx299_5 | simp only [Addr.add, Nat.zero_add] at hx299_5 | skip); have HR299_5 := Aside0.mk hi299_5; have HC299_5 := Aside0.mk hl299_5; clear hi299_5 hl299_5; replace p299 := eq_true p299; replace q299 := eq_true q299; have p38 : 0 ≤ (t283 : Int) := od (by assumption); have q38 : (t283 : Int) < ((t280.length : Int) : Int) := od (by assumption); obtain ⟨_, ce38, hcl38, hM38, hcc38, hfr38, _, _⟩ := Kd.S_elem HO_14.out z78 (t283 : Int) p38 q38; obtain ⟨ve38_5, rfl, ge38_5⟩ := k78_openM hM38; have hx38_0 : w51.cell? ⟨go43, (t283 : Int).toNat * 6, none⟩ = some (.int .i64 ((rd_T78 y298 t283).f0)) := hcc38 0 _ rfl; have hx38_1 : w51.cell? ⟨go43, (t283 : Int).toNat * 6 + 1, none⟩ = some (.int .i64 ((rd_T78 y298 t283).f1)) := hcc38 1 _ rfl; have hx38_2 : w51.cell? ⟨go43, (t283 : Int).toNat * 6 + 2, none⟩ = some (.int .i64 ((rd_T78 y298 t283).f2)) := hcc38 2 _ rfl; have hx38_3 : w51.cell? ⟨go43, (t283 : Int).toNat * 6 + 3, none⟩ = some (.int .i64 ((rd_T78 y298 t283).f3)) := hcc38 3 _ rfl; have hx38_4 : w51.cell? ⟨go43, (t283 : Int).toNat * 6 + 4, none⟩ = some (.int .i64 ((rd_T78 y298 t283).f4)) := hcc38 4 _ rfl; have hx38_5 : w51.cell? ⟨go43, (t283 : Int).toNat * 6 + 5, none⟩ = some (ve38_5) := hcc38 5 _ rfl; have hf38_0 : w51.frozen? ⟨go43, (t283 : Int).toNat * 6, none⟩ = false := hfr38 0; have hf38_1 : w51.frozen? ⟨go43, (t283 : Int).toNat * 6 + 1, none⟩ = false := hfr38 1; have hf38_2 : w51.frozen? ⟨go43, (t283 : Int).toNat * 6 + 2, none⟩ = false := hfr38 2; have hf38_3 : w51.frozen? ⟨go43, (t283 : Int).toNat * 6 + 3, none⟩ = false := hfr38 3; have hf38_4 : w51.frozen? ⟨go43, (t283 : Int).toNat * 6 + 4, none⟩ = false := hfr38 4; have hf38_5 : w51.frozen? ⟨go43, (t283 : Int).toNat * 6 + 5, none⟩ = false := hfr38 5; clear hcl38 hcc38 hfr38 hM38; replace p38 := eq_true p38; replace q38 := eq_true q38; have HX53 := Aside0.mk (show Kd.S k78 78 w51 w.heap.size (fun k_ => ((fun _ => True)) k_ ∧ ¬ ((fun _ => False)) k_) (.slice (some ⟨go43, 0, none⟩) t280.length co42) y298 from (by (with_reducible repeat (first | apply sA | apply sN | apply sD)); exact Kd.S_mono HO_14.out (fun k_ hk => ⟨trivial, fun e_ => e_⟩))); obtain ⟨oki53, ce53, hcl53, hM53, hcc53, hfr53, hoki53, hH53⟩ := Kd.S_elem HX53.out z78 (t283 : Int) (od (by assumption)) (by have h_ : (t283 : Int) < ((t280.length : Int) : Int) := od (by assumption); first | exact h_ | (have e_ := (Kd.S_reads' HO_14.out).1; omega) | simpa using h_); obtain ⟨ve53_5, rfl, ge53_5⟩ := k78_openM hM53; have HP53 := Kd.S_seg hH53 (od (by assumption)) (by have h_ : (t283 : Int) < ((t280.length : Int) : Int) := od (by assumption); first | exact h_ | (have e_ := (Kd.S_reads' HO_14.out).1; omega) | simpa using h_) (seg := [.int .i64 (wrap64 (((rd_T78 y298 t283).f4) + 1))]) (j := 4) (show 5 ≤ 6 from by decide) (x' := (⟨(rd_T78 y298 t283).f0, (rd_T78 y298 t283).f1, (rd_T78 y298 t283).f2, (rd_T78 y298 t283).f3, wrap64 (((rd_T78 y298 t283).f4) + 1), (rd_T78 y298 t283).f5⟩ : S78)) (k78_mkM _ _ _ (⟨(rd_T78 y298 t283).f0, (rd_T78 y298 t283).f1, (rd_T78 y298 t283).f2, (rd_T78 y298 t283).f3, wrap64 (((rd_T78 y298 t283).f4) + 1), (rd_T78 y298 t283).f5⟩ : S78) (Kd.R_mono ge53_5 (fun _ h_ => Or.inl h_))) (fun _ hk => hk) (fun k_ hk_ => hk_.elim); have hx53_4 := hcc53 4 _ rfl; (try simp only [show (k78).sz = 6 from rfl, Nat.mul_one, Nat.add_zero] at hx53_4); have hf53_4 := hfr53 4; (try simp only [show (k78).sz = 6 from rfl, Nat.mul_one, Nat.add_zero] at hf53_4); clear hcl53 hcc53 hfr53 hM53 hoki53 hH53) | ((with_reducible refine gate_store (t := 3) (p := 90) rfl ?_); refine store_event (t := 3) (p := 90) (v := ?vo_w54) (w1 := (w51.setCell ⟨go43, (t283 : Int).toNat * 6 + 4, none⟩ (.int .i64 (wrap64 (((rd_T78 y298 t283).f4) + 1))))) ?hg ?ho ?hn ?hr ?_; (case ho => rfl); (case hg => rfl); (case hn => rfl); (case hr => first | (go_simp; done) | (go_simp; rfl)); intro w54 hw; have hg : w51.grownBy w54 (some go43) := (by rw [hw]; exact HP53.2); have hp_ : Kd.S k78 78 w54 w.heap.size (fun _ => True) (.slice (some ⟨go43, 0, none⟩) t280.length co42) y300 := (by rw [hw, Ny300.out]; exact HP53.1); clear HP53; replace HO_14 := Aside0.mk (hp_); replace HL299_5 := Aside0.mk (Kd.R_after (v := (.slice (some ⟨go43, 0, none⟩) t280.length co42)) (v1 := (.slice (some ⟨go43, 0, none⟩) t280.length co42)) (ok := (fun _ => True)) (by (with_reducible repeat (first | apply rA | apply rN | apply rD)); exact HL299_5.out) hg (.inl rfl)); replace HB := Aside0.mk ((by rw [hw]; exact below_set (HB.out) GB43.out : Below w.heap.size w w54)); clear hg hw hp_; have p301 : 0 ≤ (t283 : Int) := od (by assumption); have q301 : t283 < (y300.length : Int) := (by have h_ : (t283 : Int) < ((t280.length : Int) : Int) := od (by assumption); first | (have e_ := (Kd.S_reads' HO_14.out).1; omega) | simpa only [Ny293.out, Ny298.out, Ny300.out, List.length_set] using h_); have ql301 : ((t283 : Int) < ((t280.length : Int) : Int)) = True := eq_true (od (by assumption)); obtain ⟨ad301, A301_5, c301_5, e301, hx301_0, hx301_1, hx301_2, hx301_3, hx301_4, hx301_5, hl301_5, hi301_5⟩ := at_T78 (Kd.S_reads' HO_14.out).2.2 t283 p301 q301; obtain rfl : (⟨go43, 0, none⟩ : Addr) = ad301 := (by injection e301); obtain ⟨ce301, hce301, hMe301, hcc301⟩ := Kd.S_get HO_14.out z78 t283 p301 (by first | exact q301 | exact od (by assumption) | (have e_ := (Kd.S_reads' HO_14.out).1; omega)); obtain ⟨ve301_5, rfl, ge301_5⟩ := k78_openM hMe301; have hv301_5 := hcc301 5 _ rfl; rw [add_field _ _ 5 (by omega)] at hv301_5; replace hv301_5 := Option.some.inj (hv301_5.symm.trans hx301_5); rw [hv301_5] at ge301_5; have HL301_5 := Aside0.mk (show Kd.R (Kd.int .i64) 3 _ _ _ _ ((rd_T78 y300 t283).f5) from ge301_5); clear hv301_5 ge301_5; have HX301_5 := Aside0.mk hx301_5; clear hcc301 hce301; (first | simp only [add_plain] at hx301_0 | simp only [add_at] at hx301_0 | simp only [Addr.add, Nat.zero_add] at hx301_0 | skip); (first | simp only [add_plain] at hx301_1 | simp only [add_at] at hx301_1 | simp only [Addr.add, Nat.zero_add] at hx301_1 | skip); (first | simp only [add_plain] at hx301_2 | simp only [add_at] at hx301_2 | simp only [Addr.add, Nat.zero_add] at hx301_2 | skip); (first | simp only [add_plain] at hx301_3 | simp only [add_at] at hx301_3 | simp only [Addr.add, Nat.zero_add] at hx301_3 | skip); (first | simp only [add_plain] at hx301_4 | simp only [add_at] at hx301_4 | simp only [Addr.add, Nat.zero_add] at hx301_4 | skip); (first | simp only [add_plain] at hx301_5 | simp only [add_at] at hx301_5 | simp only [Addr.add, Nat.zero_add] at hx301_5 | skip); have HR301_5 := Aside0.mk hi301_5; have HC301_5 := Aside0.mk hl301_5; clear hi301_5 hl301_5; replace p301 := eq_true p301; replace q301 := eq_true q301; have p39 : 0 ≤ (t283 : Int) := od (by assumption); have q39 : (t283 : Int) < ((t280.length : Int) : Int) := od (by assumption); obtain ⟨_, ce39, hcl39, hM39, hcc39, hfr39, _, _⟩ := Kd.S_elem HO_14.out z78 (t283 : Int) p39 q39; obtain ⟨ve39_5, rfl, ge39_5⟩ := k78_openM hM39; have hx39_0 : w54.cell? ⟨go43, (t283 : Int).toNat * 6, none⟩ = some (.int .i64 ((rd_T78 y300 t283).f0)) := hcc39 0 _ rfl; have hx39_1 : w54.cell? ⟨go43, (t283 : Int).toNat * 6 + 1, none⟩ = some (.int .i64 ((rd_T78 y300 t283).f1)) := hcc39 1 _ rfl; have hx39_2 : w54.cell? ⟨go43, (t283 : Int).toNat * 6 + 2, none⟩ = some (.int .i64 ((rd_T78 y300 t283).f2)) := hcc39 2 _ rfl; have hx39_3 : w54.cell? ⟨go43, (t283 : Int).toNat * 6 + 3, none⟩ = some (.int .i64 ((rd_T78 y300 t283).f3)) := hcc39 3 _ rfl; have hx39_4 : w54.cell? ⟨go43, (t283 : Int).toNat * 6 + 4, none⟩ = some (.int .i64 ((rd_T78 y300 t283).f4)) := hcc39 4 _ rfl; have hx39_5 : w54.cell? ⟨go43, (t283 : Int).toNat * 6 + 5, none⟩ = some (ve39_5) := hcc39 5 _ rfl; have hf39_0 : w54.frozen? ⟨go43, (t283 : Int).toNat * 6, none⟩ = false := hfr39 0; have hf39_1 : w54.frozen? ⟨go43, (t283 : Int).toNat * 6 + 1, none⟩ = false := hfr39 1; have hf39_2 : w54.frozen? ⟨go43, (t283 : Int).toNat * 6 + 2, none⟩ = false := hfr39 2; have hf39_3 : w54.frozen? ⟨go43, (t283 : Int).toNat * 6 + 3, none⟩ = false := hfr39 3; have hf39_4 : w54.frozen? ⟨go43, (t283 : Int).toNat * 6 + 4, none⟩ = false := hfr39 4; have hf39_5 : w54.frozen? ⟨go43, (t283 : Int).toNat * 6 + 5, none⟩ = false := hfr39 5; clear hcl39 hcc39 hfr39 hM39; replace p39 := eq_true p39; replace q39 := eq_true q39; have HX55 := Aside0.mk (show Kd.S k78 78 w54 w.heap.size (fun k_ => ((fun _ => True)) k_ ∧ ¬ ((fun _ => False)) k_) (.slice (some ⟨go43, 0, none⟩) t280.length co42) y300 from (by (with_reducible repeat (first | apply sA | apply sN | apply sD)); exact Kd.S_mono HO_14.out (fun k_ hk => ⟨trivial, fun e_ => e_⟩))); obtain ⟨oki55, ce55, hcl55, hM55, hcc55, hfr55, hoki55, hH55⟩ := Kd.S_elem HX55.out z78 (t283 : Int) (od (by assumption)) (by have h_ : (t283 : Int) < ((t280.length : Int) : Int) := od (by assumption); first | exact h_ | (have e_ := (Kd.S_reads' HO_14.out).1; omega) | simpa using h_); obtain ⟨ve55_5, rfl, ge55_5⟩ := k78_openM hM55; have HP55 := Kd.S_seg hH55 (od (by assumption)) (by have h_ : (t283 : Int) < ((t280.length : Int) : Int) := od (by assumption); first | exact h_ | (have e_ := (Kd.S_reads' HO_14.out).1; omega) | simpa using h_) (seg := [.int .i64 (wrap64 (((rd_T78 y300 t283).f3) + a4))]) (j := 3) (show 4 ≤ 6 from by decide) (x' := (⟨(rd_T78 y300 t283).f0, (rd_T78 y300 t283).f1, (rd_T78 y300 t283).f2, wrap64 (((rd_T78 y300 t283).f3) + a4), (rd_T78 y300 t283).f4, (rd_T78 y300 t283).f5⟩ : S78)) (k78_mkM _ _ _ (⟨(rd_T78 y300 t283).f0, (rd_T78 y300 t283).f1, (rd_T78 y300 t283).f2, wrap64 (((rd_T78 y300 t283).f3) + a4), (rd_T78 y300 t283).f4, (rd_T78 y300 t283).f5⟩ : S78) (Kd.R_mono ge55_5 (fun _ h_ => Or.inl h_))) (fun _ hk => hk) (fun k_ hk_ => hk_.elim); have hx55_3 := hcc55 3 _ rfl; (try simp only [show (k78).sz = 6 from rfl, Nat.mul_one, Nat.add_zero] at hx55_3); have hf55_3 := hfr55 3; (try simp only [show (k78).sz = 6 from rfl, Nat.mul_one, Nat.add_zero] at hf55_3); clear hcl55 hcc55 hfr55 hM55 hoki55 hH55) | ((with_reducible refine gate_store (t := 3) (p := 101) rfl ?_); refine store_event (t := 3) (p := 101) (v := ?vo_w56) (w1 := (w54.setCell ⟨go43, (t283 : Int).toNat * 6 + 3, none⟩ (.int .i64 (wrap64 (((rd_T78 y300 t283).f3) + a4))))) ?hg ?ho ?hn ?hr ?_; (case ho => rfl); (case hg => rfl); (case hn => rfl); (case hr => first | (go_simp; done) | (go_simp; rfl)); intro w56 hw; have hg : w54.grownBy w56 (some go43) := (by rw [hw]; exact HP55.2); have hp_ : Kd.S k78 78 w56 w.heap.size (fun _ => True) (.slice (some ⟨go43, 0, none⟩) t280.length co42) y302 := (by rw [hw, Ny302.out]; exact HP55.1); clear HP55; replace HO_14 := Aside0.mk (hp_); replace HL299_5 := Aside0.mk (Kd.R_after (v := (.slice (some ⟨go43, 0, none⟩) t280.length co42)) (v1 := (.slice (some ⟨go43, 0, none⟩) t280.length co42)) (ok := (fun _ => True)) (by (with_reducible repeat (first | apply rA | apply rN | apply rD)); exact HL299_5.out) hg (.inl rfl)); replace HL301_5 := Aside0.mk (Kd.R_after (v := (.slice (some ⟨go43, 0, none⟩) t280.length co42)) (v1 := (.slice (some ⟨go43, 0, none⟩) t280.length co42)) (ok := (fun _ => True)) (by (with_reducible repeat (first | apply rA | apply rN | apply rD)); exact HL301_5.out) hg (.inl rfl)); replace HB := Aside0.mk ((by rw [hw]; exact below_set (HB.out) GB43.out : Below w.heap.size w w56)); clear hg hw hp_; have p303 : 0 ≤ (t284 : Int) := od (by assumption); have q303 : t284 < (y302.length : Int) := (by have h_ : (t284 : Int) < ((t280.length : Int) : Int) := od (by assumption); first | (have e_ := (Kd.S_reads' HO_14.out).1; omega) | simpa only [Ny293.out, Ny298.out, Ny300.out, Ny302.out, List.length_set] using h_); have ql303 : ((t284 : Int) < ((t280.length : Int) : Int)) = True := eq_true (od (by assumption)); obtain ⟨ad303, A303_5, c303_5, e303, hx303_0, hx303_1, hx303_2, hx303_3, hx303_4, hx303_5, hl303_5, hi303_5⟩ := at_T78 (Kd.S_reads' HO_14.out).2.2 t284 p303 q303; obtain rfl : (⟨go43, 0, none⟩ : Addr) = ad303 := (by injection e303); obtain ⟨ce303, hce303, hMe303, hcc303⟩ := Kd.S_get HO_14.out z78 t284 p303 (by first | exact q303 | exact od (by assumption) | (have e_ := (Kd.S_reads' HO_14.out).1; omega)); obtain ⟨ve303_5, rfl, ge303_5⟩ := k78_openM hMe303; have hv303_5 := hcc303 5 _ rfl; rw [add_field _ _ 5 (by omega)] at hv303_5; replace hv303_5 := Option.some.inj (hv303_5.symm.trans hx303_5); rw [hv303_5] at ge303_5; have HL303_5 := Aside0.mk (show Kd.R (Kd.int .i64) 3 _ _ _ _ ((rd_T78 y302 t284).f5) from ge303_5); clear hv303_5 ge303_5; have HX303_5 := Aside0.mk hx303_5; clear hcc303 hce303; (first | simp only [add_plain] at hx303_0 | simp only [add_at] at hx303_0 | simp only [Addr.add, Nat.zero_add] at hx303_0 | skip); (first | simp only [add_plain] at hx303_1 | simp only [add_at] at hx303_1 | simp only [Addr.add, Nat.zero_add] at hx303_1 | skip); (first | simp only [add_plain] at hx303_2 | simp only [add_at] at hx303_2 | simp only [Addr.add, Nat.zero_add] at hx303_2 | skip); (first | simp only [add_plain] at hx303_3 | simp only [add_at] at hx303_3 | simp only [Addr.add, Nat.zero_add] at hx303_3 | skip); (first | simp only [add_plain] at hx303_4 | simp only [add_at] at hx303_4 | simp only [Addr.add, Nat.zero_add] at hx303_4 | skip); (first | simp only [add_plain] at hx303_5 | simp only [add_at] at hx303_5 | simp only [Addr.add, Nat.zero_add] at hx303_5 | skip); have HR303_5 := Aside0.mk hi303_5; have HC303_5 := Aside0.mk hl303_5; clear hi303_5 hl303_5; replace p303 := eq_true p303; replace q303 := eq_true q303; have p40 : 0 ≤ (t284 : Int) := od (by assumption); have q40 : (t284 : Int) < ((t280.length : Int) : Int) := od (by assumption); obtain ⟨_, ce40, hcl40, hM40, hcc40, hfr40, _, _⟩ := Kd.S_elem HO_14.out z78 (t284 : Int) p40 q40; obtain ⟨ve40_5, rfl, ge40_5⟩ := k78_openM hM40; have hx40_0 : w56.cell? ⟨go43, (t284 : Int).toNat * 6, none⟩ = some (.int .i64 ((rd_T78 y302 t284).f0)) := hcc40 0 _ rfl; have hx40_1 : w56.cell? ⟨go43, (t284 : Int).toNat * 6 + 1, none⟩ = some (.int .i64 ((rd_T78 y302 t284).f1)) := hcc40 1 _ rfl; have hx40_2 : w56.cell? ⟨go43, (t284 : Int).toNat * 6 + 2, none⟩ = some (.int .i64 ((rd_T78 y302 t284).f2)) := hcc40 2 _ rfl; have hx40_3 : w56.cell? ⟨go43, (t284 : Int).toNat * 6 + 3, none⟩ = some (.int .i64 ((rd_T78 y302 t284).f3)) := hcc40 3 _ rfl; have hx40_4 : w56.cell? ⟨go43, (t284 : Int).toNat * 6 + 4, none⟩ = some (.int .i64 ((rd_T78 y302 t284).f4)) := hcc40 4 _ rfl; have hx40_5 : w56.cell? ⟨go43, (t284 : Int).toNat * 6 + 5, none⟩ = some (ve40_5) := hcc40 5 _ rfl; have hf40_0 : w56.frozen? ⟨go43, (t284 : Int).toNat * 6, none⟩ = false := hfr40 0; have hf40_1 : w56.frozen? ⟨go43, (t284 : Int).toNat * 6 + 1, none⟩ = false := hfr40 1; have hf40_2 : w56.frozen? ⟨go43, (t284 : Int).toNat * 6 + 2, none⟩ = false := hfr40 2; have hf40_3 : w56.frozen? ⟨go43, (t284 : Int).toNat * 6 + 3, none⟩ = false := hfr40 3; have hf40_4 : w56.frozen? ⟨go43, (t284 : Int).toNat * 6 + 4, none⟩ = false := hfr40 4; have hf40_5 : w56.frozen? ⟨go43, (t284 : Int).toNat * 6 + 5, none⟩ = false := hfr40 5; clear hcl40 hcc40 hfr40 hM40; replace p40 := eq_true p40; replace q40 := eq_true q40; have HX57 := Aside0.mk (show Kd.S k78 78 w56 w.heap.size (fun k_ => ((fun _ => True)) k_ ∧ ¬ ((fun _ => False)) k_) (.slice (some ⟨go43, 0, none⟩) t280.length co42) y302 from (by (with_reducible repeat (first | apply sA | apply sN | apply sD)); exact Kd.S_mono HO_14.out (fun k_ hk => ⟨trivial, fun e_ => e_⟩))); obtain ⟨oki57, ce57, hcl57, hM57, hcc57, hfr57, hoki57, hH57⟩ := Kd.S_elem HX57.out z78 (t284 : Int) (od (by assumption)) (by have h_ : (t284 : Int) < ((t280.length : Int) : Int) := od (by assumption); first | exact h_ | (have e_ := (Kd.S_reads' HO_14.out).1; omega) | simpa using h_); obtain ⟨ve57_5, rfl, ge57_5⟩ := k78_openM hM57; have HP57 := Kd.S_seg hH57 (od (by assumption)) (by have h_ : (t284 : Int) < ((t280.length : Int) : Int) := od (by assumption); first | exact h_ | (have e_ := (Kd.S_reads' HO_14.out).1; omega) | simpa using h_) (seg := [.int .i64 (wrap64 (((rd_T78 y302 t284).f3) + a5))]) (j := 3) (show 4 ≤ 6 from by decide) (x' := (⟨(rd_T78 y302 t284).f0, (rd_T78 y302 t284).f1, (rd_T78 y302 t284).f2, wrap64 (((rd_T78 y302 t284).f3) + a5), (rd_T78 y302 t284).f4, (rd_T78 y302 t284).f5⟩ : S78)) (k78_mkM _ _ _ (⟨(rd_T78 y302 t284).f0, (rd_T78 y302 t284).f1, (rd_T78 y302 t284).f2, wrap64 (((rd_T78 y302 t284).f3) + a5), (rd_T78 y302 t284).f4, (rd_T78 y302 t284).f5⟩ : S78) (Kd.R_mono ge57_5 (fun _ h_ => Or.inl h_))) (fun _ hk => hk) (fun k_ hk_ => hk_.elim); have hx57_3 := hcc57 3 _ rfl; (try simp only [show (k78).sz = 6 from rfl, Nat.mul_one, Nat.add_zero] at hx57_3); have hf57_3 := hfr57 3; (try simp only [show (k78).sz = 6 from rfl, Nat.mul_one, Nat.add_zero] at hf57_3); clear hcl57 hcc57 hfr57 hM57 hoki57 hH57) | ((with_reducible refine gate_store (t := 3) (p := 112) rfl ?_); refine store_event (t := 3) (p := 112) (v := ?vo_w58) (w1 := (w56.setCell ⟨go43, (t284 : Int).toNat * 6 + 3, none⟩ (.int .i64 (wrap64 (((rd_T78 y302 t284).f3) + a5))))) ?hg ?ho ?hn ?hr ?_; (case ho => rfl); (case hg => rfl); (case hn => rfl); (case hr => first | (go_simp; done) | (go_simp; rfl)); intro w58 hw; have hg : w56.grownBy w58 (some go43) := (by rw [hw]; exact HP57.2); have hp_ : Kd.S k78 78 w58 w.heap.size (fun _ => True) (.slice (some ⟨go43, 0, none⟩) t280.length co42) y304 := (by rw [hw, Ny304.out]; exact HP57.1); clear HP57; replace HO_14 := Aside0.mk (hp_); replace HL299_5 := Aside0.mk (Kd.R_after (v := (.slice (some ⟨go43, 0, none⟩) t280.length co42)) (v1 := (.slice (some ⟨go43, 0, none⟩) t280.length co42)) (ok := (fun _ => True)) (by (with_reducible repeat (first | apply rA | apply rN | apply rD)); exact HL299_5.out) hg (.inl rfl)); replace HL301_5 := Aside0.mk (Kd.R_after (v := (.slice (some ⟨go43, 0, none⟩) t280.length co42)) (v1 := (.slice (some ⟨go43, 0, none⟩) t280.length co42)) (ok := (fun _ => True)) (by (with_reducible repeat (first | apply rA | apply rN | apply rD)); exact HL301_5.out) hg (.inl rfl)); replace HL303_5 := Aside0.mk (Kd.R_after (v := (.slice (some ⟨go43, 0, none⟩) t280.length co42)) (v1 := (.slice (some ⟨go43, 0, none⟩) t280.length co42)) (ok := (fun _ => True)) (by (with_reducible repeat (first | apply rA | apply rN | apply rD)); exact HL303_5.out) hg (.inl rfl)); replace HB := Aside0.mk ((by rw [hw]; exact below_set (HB.out) GB43.out : Below w.heap.size w w58)); clear hg hw hp_))
    (try simp only [Act.put, Z1, Z2, Z3])
    go_cut [] (fun wc => ∃ (kq : Nat) (x14_40 : List (S78)), Aside0 (spec_AddResult.j1 kq l0 x14_40 = some (r1, r2)) ∧ Aside0 (kq ≤ kj9) ∧ Aside0 (Kd.S k78 78 wc w.heap.size (fun _ => True) (.slice (some ⟨go43, 0, none⟩) t280.length co42) x14_40) ∧ Aside0 (Below w.heap.size w wc))
    case first =>
     have H := HC41.out
     clear HC41
     by_cases c59 : a3 = 1
     rotate_left
     ·
      rw [if_neg c59] at H
      have c59b0 : (a3 == 1) = false := beq_eq_false_iff_ne.mpr c59
      have c59b1 : (a3 != 1) = true := bne_iff_ne.mpr c59
      (first | rw [c59b0] | (simp only [i64_w, i32_w]; rw [c59b0]) | skip)
      obtain ⟨y308, hy308⟩ : ∃ y_ : List (S78), y_ = (y304.set (t284 : Int).toNat (⟨(rd_T78 y304 t284).f0, (rd_T78 y304 t284).f1, wrap64 (((rd_T78 y304 t284).f2) + 1), (rd_T78 y304 t284).f3, (rd_T78 y304 t284).f4, (rd_T78 y304 t284).f5⟩ : S78)) := ⟨_, rfl⟩
      replace H : (spec_AddResult.j1 kj9 l0 y308) = some (r1, r2) := by first | (rw [hy308]; with_reducible exact H) | (have H2_ := (Option.bind_some _ _).symm.trans H; rw [hy308]; with_reducible exact H2_) | (have H2_ := (Option.bind_some _ _).symm.trans H; with_reducible exact H2_) | with_reducible exact H | (rw [hy308]; exact H) | exact H
      have Ny308 := Aside0.mk hy308
      clear hy308
      have H' := Aside0.mk H
      clear H
      have p307 : 0 ≤ (t284 : Int) := od (by assumption)
      have q307 : t284 < (y304.length : Int) := (by have h_ : (t284 : Int) < ((t280.length : Int) : Int) := od (by assumption); first | (have e_ := (Kd.S_reads' HO_14.out).1; omega) | simpa only [Ny293.out, Ny298.out, Ny300.out, Ny302.out, Ny304.out, List.length_set] using h_)
      have ql307 : ((t284 : Int) < ((t280.length : Int) : Int)) = True := eq_true (od (by assumption))
      obtain ⟨ad307, A307_5, c307_5, e307, hx307_0, hx307_1, hx307_2, hx307_3, hx307_4, hx307_5, hl307_5, hi307_5⟩ := at_T78 (Kd.S_reads' HO_14.out).2.2 t284 p307 q307
      obtain rfl : (⟨go43, 0, none⟩ : Addr) = ad307 := (by injection e307)
      obtain ⟨ce307, hce307, hMe307, hcc307⟩ := Kd.S_get HO_14.out z78 t284 p307 (by first | exact q307 | exact od (by assumption) | (have e_ := (Kd.S_reads' HO_14.out).1; omega))
      obtain ⟨ve307_5, rfl, ge307_5⟩ := k78_openM hMe307
      have hv307_5 := hcc307 5 _ rfl
      rw [add_field _ _ 5 (by omega)] at hv307_5
      replace hv307_5 := Option.some.inj (hv307_5.symm.trans hx307_5)
      rw [hv307_5] at ge307_5
      have HL307_5 := Aside0.mk (show Kd.R (Kd.int .i64) 3 _ _ _ _ ((rd_T78 y304 t284).f5) from ge307_5)
      clear hv307_5 ge307_5
      have HX307_5 := Aside0.mk hx307_5
      clear hcc307 hce307
      (first | simp only [add_plain] at hx307_0 | simp only [add_at] at hx307_0 | simp only [Addr.add, Nat.zero_add] at hx307_0 | skip)
      (first | simp only [add_plain] at hx307_1 | simp only [add_at] at hx307_1 | simp only [Addr.add, Nat.zero_add] at hx307_1 | skip)
      (first | simp only [add_plain] at hx307_2 | simp only [add_at] at hx307_2 | simp only [Addr.add, Nat.zero_add] at hx307_2 | skip)
      (first | simp only [add_plain] at hx307_3 | simp only [add_at] at hx307_3 | simp only [Addr.add, Nat.zero_add] at hx307_3 | skip)
      (first | simp only [add_plain] at hx307_4 | simp only [add_at] at hx307_4 | simp only [Addr.add, Nat.zero_add] at hx307_4 | skip)
      (first | simp only [add_plain] at hx307_5 | simp only [add_at] at hx307_5 | simp only [Addr.add, Nat.zero_add] at hx307_5 | skip)
      have HR307_5 := Aside0.mk hi307_5
      have HC307_5 := Aside0.mk hl307_5
      clear hi307_5 hl307_5
      replace p307 := eq_true p307
      replace q307 := eq_true q307
      have p63 : 0 ≤ (t284 : Int) := od (by assumption)
      have q63 : (t284 : Int) < ((t280.length : Int) : Int) := od (by assumption)
      obtain ⟨_, ce63, hcl63, hM63, hcc63, hfr63, _, _⟩ := Kd.S_elem HO_14.out z78 (t284 : Int) p63 q63
      obtain ⟨ve63_5, rfl, ge63_5⟩ := k78_openM hM63
      have hx63_0 : w58.cell? ⟨go43, (t284 : Int).toNat * 6, none⟩ = some (.int .i64 ((rd_T78 y304 t284).f0)) := hcc63 0 _ rfl
      have hx63_1 : w58.cell? ⟨go43, (t284 : Int).toNat * 6 + 1, none⟩ = some (.int .i64 ((rd_T78 y304 t284).f1)) := hcc63 1 _ rfl
      have hx63_2 : w58.cell? ⟨go43, (t284 : Int).toNat * 6 + 2, none⟩ = some (.int .i64 ((rd_T78 y304 t284).f2)) := hcc63 2 _ rfl
      have hx63_3 : w58.cell? ⟨go43, (t284 : Int).toNat * 6 + 3, none⟩ = some (.int .i64 ((rd_T78 y304 t284).f3)) := hcc63 3 _ rfl
      have hx63_4 : w58.cell? ⟨go43, (t284 : Int).toNat * 6 + 4, none⟩ = some (.int .i64 ((rd_T78 y304 t284).f4)) := hcc63 4 _ rfl
      have hx63_5 : w58.cell? ⟨go43, (t284 : Int).toNat * 6 + 5, none⟩ = some (ve63_5) := hcc63 5 _ rfl
      have hf63_0 : w58.frozen? ⟨go43, (t284 : Int).toNat * 6, none⟩ = false := hfr63 0
      have hf63_1 : w58.frozen? ⟨go43, (t284 : Int).toNat * 6 + 1, none⟩ = false := hfr63 1
      have hf63_2 : w58.frozen? ⟨go43, (t284 : Int).toNat * 6 + 2, none⟩ = false := hfr63 2
      have hf63_3 : w58.frozen? ⟨go43, (t284 : Int).toNat * 6 + 3, none⟩ = false := hfr63 3
      have hf63_4 : w58.frozen? ⟨go43, (t284 : Int).toNat * 6 + 4, none⟩ = false := hfr63 4
      have hf63_5 : w58.frozen? ⟨go43, (t284 : Int).toNat * 6 + 5, none⟩ = false := hfr63 5
      clear hcl63 hcc63 hfr63 hM63
      replace p63 := eq_true p63
      replace q63 := eq_true q63
      have HX64 := Aside0.mk (show Kd.S k78 78 w58 w.heap.size (fun k_ => ((fun _ => True)) k_ ∧ ¬ ((fun _ => False)) k_) (.slice (some ⟨go43, 0, none⟩) t280.length co42) y304 from (by (with_reducible repeat (first | apply sA | apply sN | apply sD)); exact Kd.S_mono HO_14.out (fun k_ hk => ⟨trivial, fun e_ => e_⟩)))
      obtain ⟨oki64, ce64, hcl64, hM64, hcc64, hfr64, hoki64, hH64⟩ := Kd.S_elem HX64.out z78 (t284 : Int) (od (by assumption)) (by have h_ : (t284 : Int) < ((t280.length : Int) : Int) := od (by assumption); first | exact h_ | (have e_ := (Kd.S_reads' HO_14.out).1; omega) | simpa using h_)
      obtain ⟨ve64_5, rfl, ge64_5⟩ := k78_openM hM64
      have HP64 := Kd.S_seg hH64 (od (by assumption)) (by have h_ : (t284 : Int) < ((t280.length : Int) : Int) := od (by assumption); first | exact h_ | (have e_ := (Kd.S_reads' HO_14.out).1; omega) | simpa using h_) (seg := [.int .i64 (wrap64 (((rd_T78 y304 t284).f2) + 1))]) (j := 2) (show 3 ≤ 6 from by decide) (x' := (⟨(rd_T78 y304 t284).f0, (rd_T78 y304 t284).f1, wrap64 (((rd_T78 y304 t284).f2) + 1), (rd_T78 y304 t284).f3, (rd_T78 y304 t284).f4, (rd_T78 y304 t284).f5⟩ : S78)) (k78_mkM _ _ _ (⟨(rd_T78 y304 t284).f0, (rd_T78 y304 t284).f1, wrap64 (((rd_T78 y304 t284).f2) + 1), (rd_T78 y304 t284).f3, (rd_T78 y304 t284).f4, (rd_T78 y304 t284).f5⟩ : S78) (Kd.R_mono ge64_5 (fun _ h_ => Or.inl h_))) (fun _ hk => hk) (fun k_ hk_ => hk_.elim)
      have hx64_2 := hcc64 2 _ rfl
      (try simp only [show (k78).sz = 6 from rfl, Nat.mul_one, Nat.add_zero] at hx64_2)
      have hf64_2 := hfr64 2
      (try simp only [show (k78).sz = 6 from rfl, Nat.mul_one, Nat.add_zero] at hf64_2)
      clear hcl64 hcc64 hfr64 hM64 hoki64 hH64
      go_wp2_with (first | ((with_reducible refine gate_store (t := 3) (p := 134) rfl ?_); refine store_event (t := 3) (p := 134) (v := ?vo_w65) (w1 := (w58.setCell ⟨go43, (t284 : Int).toNat * 6 + 2, none⟩ (.int .i64 (wrap64 (((rd_T78 y304 t284).f2) + 1))))) ?hg ?ho ?hn ?hr ?_; (case ho => rfl); (case hg => rfl); (case hn => rfl); (case hr => first | (go_simp; done) | (go_simp; rfl)); intro w65 hw; have hg : w58.grownBy w65 (some go43) := (by rw [hw]; exact HP64.2); have hp_ : Kd.S k78 78 w65 w.heap.size (fun _ => True) (.slice (some ⟨go43, 0, none⟩) t280.length co42) y308 := (by rw [hw, Ny308.out]; exact HP64.1); clear HP64; replace HO_14 := Aside0.mk (hp_); replace HL299_5 := Aside0.mk (Kd.R_after (v := (.slice (some ⟨go43, 0, none⟩) t280.length co42)) (v1 := (.slice (some ⟨go43, 0, none⟩) t280.length co42)) (ok := (fun _ => True)) (by (with_reducible repeat (first | apply rA | apply rN | apply rD)); exact HL299_5.out) hg (.inl rfl)); replace HL301_5 := Aside0.mk (Kd.R_after (v := (.slice (some ⟨go43, 0, none⟩) t280.length co42)) (v1 := (.slice (some ⟨go43, 0, none⟩) t280.length co42)) (ok := (fun _ => True)) (by (with_reducible repeat (first | apply rA | apply rN | apply rD)); exact HL301_5.out) hg (.inl rfl)); replace HL303_5 := Aside0.mk (Kd.R_after (v := (.slice (some ⟨go43, 0, none⟩) t280.length co42)) (v1 := (.slice (some ⟨go43, 0, none⟩) t280.length co42)) (ok := (fun _ => True)) (by (with_reducible repeat (first | apply rA | apply rN | apply rD)); exact HL303_5.out) hg (.inl rfl)); replace HL307_5 := Aside0.mk (Kd.R_after (v := (.slice (some ⟨go43, 0, none⟩) t280.length co42)) (v1 := (.slice (some ⟨go43, 0, none⟩) t280.length co42)) (ok := (fun _ => True)) (by (with_reducible repeat (first | apply rA | apply rN | apply rD)); exact HL307_5.out) hg (.inl rfl)); replace HB := Aside0.mk ((by rw [hw]; exact below_set (HB.out) GB43.out : Below w.heap.size w w65)); clear hg hw hp_))
      go_meet
      case rel => exact ⟨_, (y308), H', ⟨by have := HJ9.out; first | omega | exact Nat.le_refl _⟩, ⟨by (with_reducible repeat (first | apply sA | apply sN | apply sD)); exact HO_14.out⟩, ⟨by repeat (first | (with_reducible first | exact HB.out | apply bA | apply bN | apply bD) | exact HB.out)⟩⟩
     rw [if_pos c59] at H
     have c59b0 : (a3 == 1) = true := beq_iff_eq.mpr c59
     have c59b1 : (a3 != 1) = false := bne_eq_false_iff_eq.mpr c59
     clear c59
     (first | rw [c59b0] | (simp only [i64_w, i32_w]; rw [c59b0]) | skip)
     obtain ⟨y306, hy306⟩ : ∃ y_ : List (S78), y_ = (y304.set (t283 : Int).toNat (⟨(rd_T78 y304 t283).f0, (rd_T78 y304 t283).f1, wrap64 (((rd_T78 y304 t283).f2) + 1), (rd_T78 y304 t283).f3, (rd_T78 y304 t283).f4, (rd_T78 y304 t283).f5⟩ : S78)) := ⟨_, rfl⟩
     replace H : (spec_AddResult.j1 kj9 l0 y306) = some (r1, r2) := by first | (rw [hy306]; with_reducible exact H) | (have H2_ := (Option.bind_some _ _).symm.trans H; rw [hy306]; with_reducible exact H2_) | (have H2_ := (Option.bind_some _ _).symm.trans H; with_reducible exact H2_) | with_reducible exact H | (rw [hy306]; exact H) | exact H
     have Ny306 := Aside0.mk hy306
     clear hy306
     have H' := Aside0.mk H
     clear H
     have p305 : 0 ≤ (t283 : Int) := od (by assumption)
     have q305 : t283 < (y304.length : Int) := (by have h_ : (t283 : Int) < ((t280.length : Int) : Int) := od (by assumption); first | (have e_ := (Kd.S_reads' HO_14.out).1; omega) | simpa only [Ny293.out, Ny298.out, Ny300.out, Ny302.out, Ny304.out, List.length_set] using h_)
     have ql305 : ((t283 : Int) < ((t280.length : Int) : Int)) = True := eq_true (od (by assumption))
     obtain ⟨ad305, A305_5, c305_5, e305, hx305_0, hx305_1, hx305_2, hx305_3, hx305_4, hx305_5, hl305_5, hi305_5⟩ := at_T78 (Kd.S_reads' HO_14.out).2.2 t283 p305 q305
     obtain rfl : (⟨go43, 0, none⟩ : Addr) = ad305 := (by injection e305)
     obtain ⟨ce305, hce305, hMe305, hcc305⟩ := Kd.S_get HO_14.out z78 t283 p305 (by first | exact q305 | exact od (by assumption) | (have e_ := (Kd.S_reads' HO_14.out).1; omega))
     obtain ⟨ve305_5, rfl, ge305_5⟩ := k78_openM hMe305
     have hv305_5 := hcc305 5 _ rfl
     rw [add_field _ _ 5 (by omega)] at hv305_5
     replace hv305_5 := Option.some.inj (hv305_5.symm.trans hx305_5)
     rw [hv305_5] at ge305_5
     have HL305_5 := Aside0.mk (show Kd.R (Kd.int .i64) 3 _ _ _ _ ((rd_T78 y304 t283).f5) from ge305_5)
     clear hv305_5 ge305_5
     have HX305_5 := Aside0.mk hx305_5
     clear hcc305 hce305
     (first | simp only [add_plain] at hx305_0 | simp only [add_at] at hx305_0 | simp only [Addr.add, Nat.zero_add] at hx305_0 | skip)
     (first | simp only [add_plain] at hx305_1 | simp only [add_at] at hx305_1 | simp only [Addr.add, Nat.zero_add] at hx305_1 | skip)
     (first | simp only [add_plain] at hx305_2 | simp only [add_at] at hx305_2 | simp only [Addr.add, Nat.zero_add] at hx305_2 | skip)
     (first | simp only [add_plain] at hx305_3 | simp only [add_at] at hx305_3 | simp only [Addr.add, Nat.zero_add] at hx305_3 | skip)
     (first | simp only [add_plain] at hx305_4 | simp only [add_at] at hx305_4 | simp only [Addr.add, Nat.zero_add] at hx305_4 | skip)
     (first | simp only [add_plain] at hx305_5 | simp only [add_at] at hx305_5 | simp only [Addr.add, Nat.zero_add] at hx305_5 | skip)
     have HR305_5 := Aside0.mk hi305_5
     have HC305_5 := Aside0.mk hl305_5
     clear hi305_5 hl305_5
     replace p305 := eq_true p305
     replace q305 := eq_true q305
     have p60 : 0 ≤ (t283 : Int) := od (by assumption)
     have q60 : (t283 : Int) < ((t280.length : Int) : Int) := od (by assumption)
     obtain ⟨_, ce60, hcl60, hM60, hcc60, hfr60, _, _⟩ := Kd.S_elem HO_14.out z78 (t283 : Int) p60 q60
     obtain ⟨ve60_5, rfl, ge60_5⟩ := k78_openM hM60
     have hx60_0 : w58.cell? ⟨go43, (t283 : Int).toNat * 6, none⟩ = some (.int .i64 ((rd_T78 y304 t283).f0)) := hcc60 0 _ rfl
     have hx60_1 : w58.cell? ⟨go43, (t283 : Int).toNat * 6 + 1, none⟩ = some (.int .i64 ((rd_T78 y304 t283).f1)) := hcc60 1 _ rfl
     have hx60_2 : w58.cell? ⟨go43, (t283 : Int).toNat * 6 + 2, none⟩ = some (.int .i64 ((rd_T78 y304 t283).f2)) := hcc60 2 _ rfl
     have hx60_3 : w58.cell? ⟨go43, (t283 : Int).toNat * 6 + 3, none⟩ = some (.int .i64 ((rd_T78 y304 t283).f3)) := hcc60 3 _ rfl
     have hx60_4 : w58.cell? ⟨go43, (t283 : Int).toNat * 6 + 4, none⟩ = some (.int .i64 ((rd_T78 y304 t283).f4)) := hcc60 4 _ rfl
     have hx60_5 : w58.cell? ⟨go43, (t283 : Int).toNat * 6 + 5, none⟩ = some (ve60_5) := hcc60 5 _ rfl
     have hf60_0 : w58.frozen? ⟨go43, (t283 : Int).toNat * 6, none⟩ = false := hfr60 0
     have hf60_1 : w58.frozen? ⟨go43, (t283 : Int).toNat * 6 + 1, none⟩ = false := hfr60 1
     have hf60_2 : w58.frozen? ⟨go43, (t283 : Int).toNat * 6 + 2, none⟩ = false := hfr60 2
     have hf60_3 : w58.frozen? ⟨go43, (t283 : Int).toNat * 6 + 3, none⟩ = false := hfr60 3
     have hf60_4 : w58.frozen? ⟨go43, (t283 : Int).toNat * 6 + 4, none⟩ = false := hfr60 4
     have hf60_5 : w58.frozen? ⟨go43, (t283 : Int).toNat * 6 + 5, none⟩ = false := hfr60 5
     clear hcl60 hcc60 hfr60 hM60
     replace p60 := eq_true p60
     replace q60 := eq_true q60
     have HX61 := Aside0.mk (show Kd.S k78 78 w58 w.heap.size (fun k_ => ((fun _ => True)) k_ ∧ ¬ ((fun _ => False)) k_) (.slice (some ⟨go43, 0, none⟩) t280.length co42) y304 from (by (with_reducible repeat (first | apply sA | apply sN | apply sD)); exact Kd.S_mono HO_14.out (fun k_ hk => ⟨trivial, fun e_ => e_⟩)))
     obtain ⟨oki61, ce61, hcl61, hM61, hcc61, hfr61, hoki61, hH61⟩ := Kd.S_elem HX61.out z78 (t283 : Int) (od (by assumption)) (by have h_ : (t283 : Int) < ((t280.length : Int) : Int) := od (by assumption); first | exact h_ | (have e_ := (Kd.S_reads' HO_14.out).1; omega) | simpa using h_)
     obtain ⟨ve61_5, rfl, ge61_5⟩ := k78_openM hM61
     have HP61 := Kd.S_seg hH61 (od (by assumption)) (by have h_ : (t283 : Int) < ((t280.length : Int) : Int) := od (by assumption); first | exact h_ | (have e_ := (Kd.S_reads' HO_14.out).1; omega) | simpa using h_) (seg := [.int .i64 (wrap64 (((rd_T78 y304 t283).f2) + 1))]) (j := 2) (show 3 ≤ 6 from by decide) (x' := (⟨(rd_T78 y304 t283).f0, (rd_T78 y304 t283).f1, wrap64 (((rd_T78 y304 t283).f2) + 1), (rd_T78 y304 t283).f3, (rd_T78 y304 t283).f4, (rd_T78 y304 t283).f5⟩ : S78)) (k78_mkM _ _ _ (⟨(rd_T78 y304 t283).f0, (rd_T78 y304 t283).f1, wrap64 (((rd_T78 y304 t283).f2) + 1), (rd_T78 y304 t283).f3, (rd_T78 y304 t283).f4, (rd_T78 y304 t283).f5⟩ : S78) (Kd.R_mono ge61_5 (fun _ h_ => Or.inl h_))) (fun _ hk => hk) (fun k_ hk_ => hk_.elim)
     have hx61_2 := hcc61 2 _ rfl
     (try simp only [show (k78).sz = 6 from rfl, Nat.mul_one, Nat.add_zero] at hx61_2)
     have hf61_2 := hfr61 2
     (try simp only [show (k78).sz = 6 from rfl, Nat.mul_one, Nat.add_zero] at hf61_2)
     clear hcl61 hcc61 hfr61 hM61 hoki61 hH61
     go_wp2_with (first | ((with_reducible refine gate_store (t := 3) (p := 124) rfl ?_); refine store_event (t := 3) (p := 124) (v := ?vo_w62) (w1 := (w58.setCell ⟨go43, (t283 : Int).toNat * 6 + 2, none⟩ (.int .i64 (wrap64 (((rd_T78 y304 t283).f2) + 1))))) ?hg ?ho ?hn ?hr ?_; (case ho => rfl); (case hg => rfl); (case hn => rfl); (case hr => first | (go_simp; done) | (go_simp; rfl)); intro w62 hw; have hg : w58.grownBy w62 (some go43) := (by rw [hw]; exact HP61.2); have hp_ : Kd.S k78 78 w62 w.heap.size (fun _ => True) (.slice (some ⟨go43, 0, none⟩) t280.length co42) y306 := (by rw [hw, Ny306.out]; exact HP61.1); clear HP61; replace HO_14 := Aside0.mk (hp_); replace HL299_5 := Aside0.mk (Kd.R_after (v := (.slice (some ⟨go43, 0, none⟩) t280.length co42)) (v1 := (.slice (some ⟨go43, 0, none⟩) t280.length co42)) (ok := (fun _ => True)) (by (with_reducible repeat (first | apply rA | apply rN | apply rD)); exact HL299_5.out) hg (.inl rfl)); replace HL301_5 := Aside0.mk (Kd.R_after (v := (.slice (some ⟨go43, 0, none⟩) t280.length co42)) (v1 := (.slice (some ⟨go43, 0, none⟩) t280.length co42)) (ok := (fun _ => True)) (by (with_reducible repeat (first | apply rA | apply rN | apply rD)); exact HL301_5.out) hg (.inl rfl)); replace HL303_5 := Aside0.mk (Kd.R_after (v := (.slice (some ⟨go43, 0, none⟩) t280.length co42)) (v1 := (.slice (some ⟨go43, 0, none⟩) t280.length co42)) (ok := (fun _ => True)) (by (with_reducible repeat (first | apply rA | apply rN | apply rD)); exact HL303_5.out) hg (.inl rfl)); replace HL305_5 := Aside0.mk (Kd.R_after (v := (.slice (some ⟨go43, 0, none⟩) t280.length co42)) (v1 := (.slice (some ⟨go43, 0, none⟩) t280.length co42)) (ok := (fun _ => True)) (by (with_reducible repeat (first | apply rA | apply rN | apply rD)); exact HL305_5.out) hg (.inl rfl)); replace HB := Aside0.mk ((by rw [hw]; exact below_set (HB.out) GB43.out : Below w.heap.size w w62)); clear hg hw hp_))
     go_meet
     case rel => exact ⟨_, (y306), H', ⟨by have := HJ9.out; first | omega | exact Nat.le_refl _⟩, ⟨by (with_reducible repeat (first | apply sA | apply sN | apply sD)); exact HO_14.out⟩, ⟨by repeat (first | (with_reducible first | exact HB.out | apply bA | apply bN | apply bD) | exact HB.out)⟩⟩
    case rest =>
     clear HC41
     try clear c1
     try clear c2
     try clear p2
     try clear q2
     try clear hx2
     try clear c3
     try clear p3
     try clear q3
     try clear hx3
     try clear c4
     try clear p4
     try clear q4
     try clear hx4
     try clear c5
     try clear hx5
     try clear c6
     try clear p6
     try clear q6
     try clear hx6
     try clear hf6
     try clear c10
     try clear c11
     try clear c13
     try clear c14
     try clear c14b0
     try clear c16
     try clear c16b0
     try clear c18
     try clear c18b0
     try clear c18b1
     try clear c21
     try clear c23
     try clear c28
     try clear p28
     try clear q28
     try clear hx28
     try clear c29
     try clear p29
     try clear q29
     try clear hx29
     try clear c30
     try clear c30b0
     try clear p30
     try clear q30
     try clear hx30
     try clear c31
     try clear c31b0
     try clear c32
     try clear p33
     try clear q33
     try clear c34
     try clear c34b0
     try clear c35
     try clear c35b0
     try clear c36
     try clear p37
     try clear q37
     try clear c38
     try clear p38
     try clear q38
     try clear hx38
     try clear hf38
     try clear c39
     try clear p39
     try clear q39
     try clear hx39
     try clear hf39
     try clear c40
     try clear p40
     try clear q40
     try clear hx40
     try clear hf40
     try clear c43
     try clear c45
     try clear hx45
     try clear hf45
     try clear c48
     try clear c50
     try clear hx50
     try clear hf50
     try clear c53
     try clear hx53
     try clear hf53
     try clear c55
     try clear hx55
     try clear hf55
     try clear c57
     try clear hx57
     try clear hf57
     try clear c59
     try clear c59b0
     try clear c59b1
     try clear c60
     try clear p60
     try clear q60
     try clear hx60
     try clear hf60
     try clear c61
     try clear hx61
     try clear hf61
     try clear c62
     try clear c63
     try clear p63
     try clear q63
     try clear hx63
     try clear hf63
     try clear c64
     try clear p64
     try clear hx64
     try clear hf64
     try clear hx289_0
     try clear hx289_1
     try clear hx289_2
     try clear hx289_3
     try clear hx289_4
     try clear hx289_5
     try clear hx294_0
     try clear hx294_1
     try clear hx294_2
     try clear hx294_3
     try clear hx294_4
     try clear hx294_5
     try clear hx299_0
     try clear hx299_1
     try clear hx299_2
     try clear hx299_3
     try clear hx299_4
     try clear hx299_5
     try clear hx301_0
     try clear hx301_1
     try clear hx301_2
     try clear hx301_3
     try clear hx301_4
     try clear hx301_5
     try clear hx303_0
     try clear hx303_1
     try clear hx303_2
     try clear hx303_3
     try clear hx303_4
     try clear hx303_5
     try clear hx305_0
     try clear hx305_1
     try clear hx305_2
     try clear hx305_3
     try clear hx305_4
     try clear hx305_5
     try clear hx307_0
     try clear hx307_1
     try clear hx307_2
     try clear hx307_3
     try clear hx307_4
     try clear hx307_5
     try clear hx38_0
     try clear hx38_1
     try clear hx38_2
     try clear hx38_3
     try clear hx38_4
     try clear hx38_5
     try clear hx39_0
     try clear hx39_1
     try clear hx39_2
     try clear hx39_3
     try clear hx39_4
     try clear hx39_5
     try clear hx40_0
     try clear hx40_1
     try clear hx40_2
     try clear hx40_3
     try clear hx40_4
     try clear hx40_5
     try clear hx45_0
     try clear hx50_0
     try clear hx53_4
     try clear hx55_3
     try clear hx57_3
     try clear hx60_0
     try clear hx60_1
     try clear hx60_2
     try clear hx60_3
     try clear hx60_4
     try clear hx60_5
     try clear hx61_2
     try clear hx63_0
     try clear hx63_1
     try clear hx63_2
     try clear hx63_3
     try clear hx63_4
     try clear hx63_5
     try clear hx64_2
     try clear p2
     try clear p289
     try clear p294
     try clear p299
     try clear p301
     try clear p303
     try clear p305
     try clear p307
     try clear p33
     try clear p37
     try clear p38
     try clear p39
     try clear p40
     try clear p60
     try clear p63
     try clear q289
     try clear q294
     try clear q299
     try clear q301
     try clear q303
     try clear q305
     try clear q307
     try clear q33
     try clear q37
     try clear q38
     try clear q39
     try clear q40
     try clear q60
     try clear q63
     obtain ⟨kq, x14_40, HA, HJ40, HO_14, HB⟩ := hcut
     have hl14_40 := (Kd.S_reads' HO_14.out).1
     rw [hl14_40] at HO_14
     (try simp only [hl14_40])
     cases kq with
     | zero => exact absurd HA.out (by simp [spec_AddResult.j1])
     | succ kj40 =>
      have H := HA.out
      clear HA
      simp only [spec_AddResult.j1] at H
      replace H := Option.bind_eq_some_iff.mp H
      obtain ⟨t309, A660, H⟩ := H
      replace H : (if t309 = true then (some (x14_40, true)) else ((spec_l19Copy.f kj40 l0).bind fun t310 => (some (t310, false)))) = some (r1, r2) := H
      have A66 := Aside0.mk A660
      clear A660
      by_cases c67 : t309 = true
      rotate_left
      ·
       replace c67 := Bool.eq_false_iff.mpr c67
       subst c67
       have H1 : ((spec_l19Copy.f kj40 l0).bind fun t310 => (some (t310, false))) = some (r1, r2) := by rw [if_neg (show ¬ (false = true) by decide)] at H; exact H
       clear H
       have H := H1
       clear H1
       replace H := Option.bind_eq_some_iff.mp H
       obtain ⟨t310, A690, H⟩ := H
       replace H : (some (t310, false)) = some (r1, r2) := H
       have A69 := Aside0.mk A690
       clear A690
       simp only [Option.some.injEq, Prod.mk.injEq] at H
       obtain ⟨rfl, rfl⟩ := H
       go_wp2_with (first | ((with_reducible refine gate_callee (f := 69) rfl ?_); refine goesL_ (some 136) rfl rfl Try.func69 (by kernel_rfl) rfl #[.slice (some ⟨go43, 0, none⟩) x14_40.length co42] rfl (by (try simp only [Y1, Y2, Y3]); first | done | rfl | (simp only [Y4, Y5]; rfl)) ?_; (with_reducible refine (spec_AreTeams.calls kj40 _ _ x14_40 false _ ?side1 ?side2 A66.out).mono ?_); (case side1 => repeat (first | exact (Kd.S_reads' HO_14.out).2.2 | (with_reducible first | refine cA ?_ _ | refine cN ?_ _ | refine cD ?_))); (case side2 => exact (Kd.S_reads' HO_14.out).2.1); rintro e w70 ⟨rfl, hb⟩; refine ⟨_, rfl, ?_⟩; replace HO_14 := Aside0.mk (Kd.S_below (by (with_reducible repeat (first | apply sA | apply sN | apply sD)); exact HO_14.out) hb); replace HB := Aside0.mk (below_step (by repeat (first | (with_reducible first | exact HB.out | apply bA | apply bN | apply bD) | exact HB.out)) hb); (try clear hb); (try clear hb2); (try clear hk); (try clear hi)) | ((with_reducible refine gate_callee (f := 119) rfl ?_); refine goesL_ (some 139) rfl rfl Try.func119 (by kernel_rfl) rfl #[.slice A0 l0.length c0] rfl (by (try simp only [Y1, Y2, Y3]); first | done | rfl | (simp only [Y4, Y5]; rfl)) ?_; (with_reducible refine (spec_l19Copy.calls kj40 _ _ l0 t310 _ ?side1 ?side2 A69.out).mono ?_); (case side1 => repeat (first | exact (Kd.C_below HR0.out HB.out) | (with_reducible first | refine cA ?_ _ | refine cN ?_ _ | refine cD ?_))); (case side2 => exact HC0.out); rintro e w71 ⟨v311, rfl, ho0, hb⟩; refine ⟨_, rfl, ?_⟩; have n0_ := Aside0.mk (Kd.S_elder' (by (with_reducible repeat (first | apply sA | apply sN | apply sD)); exact HO_14.out) (Kd.S_base ho0) hb); have n1_ := Aside0.mk (Kd.S_lower (Kd.S_new' ho0 (Kd.S_lt (by (with_reducible repeat (first | apply sA | apply sN | apply sD)); exact HO_14.out))) (below_size (by repeat (first | (with_reducible first | exact HB.out | apply bA | apply bN | apply bD) | exact HB.out)))); have n2_ := Aside0.mk (below_step (by repeat (first | (with_reducible first | exact HB.out | apply bA | apply bN | apply bD) | exact HB.out)) hb); clear HO_14; clear HB; have HO_14 := n0_; have HO312 := n1_; have HB := n2_; clear n0_ n1_ n2_; (try clear hb); (try clear hb2); (try clear hk); (try clear hi); (try clear ho0)))
       go_ret2
       exact ⟨_, by first | rfl | (simp [*, errW_none, errW_some] <;> rfl), by (with_reducible repeat (first | apply sA | apply sN | apply sD)); exact Kd.S_mono HO312.out (fun _ hk => trivial), by repeat (first | (with_reducible first | exact HB.out | apply bA | apply bN | apply bD) | exact HB.out)⟩
      subst c67
      have H1 : (some (x14_40, true)) = some (r1, r2) := by rw [if_pos rfl] at H; exact H
      clear H
      have H := H1
      clear H1
      simp only [Option.some.injEq, Prod.mk.injEq] at H
      obtain ⟨rfl, rfl⟩ := H
      go_wp2_with (first | ((with_reducible refine gate_callee (f := 69) rfl ?_); refine goesL_ (some 136) rfl rfl Try.func69 (by kernel_rfl) rfl #[.slice (some ⟨go43, 0, none⟩) x14_40.length co42] rfl (by (try simp only [Y1, Y2, Y3]); first | done | rfl | (simp only [Y4, Y5]; rfl)) ?_; (with_reducible refine (spec_AreTeams.calls kj40 _ _ x14_40 true _ ?side1 ?side2 A66.out).mono ?_); (case side1 => repeat (first | exact (Kd.S_reads' HO_14.out).2.2 | (with_reducible first | refine cA ?_ _ | refine cN ?_ _ | refine cD ?_))); (case side2 => exact (Kd.S_reads' HO_14.out).2.1); rintro e w68 ⟨rfl, hb⟩; refine ⟨_, rfl, ?_⟩; replace HO_14 := Aside0.mk (Kd.S_below (by (with_reducible repeat (first | apply sA | apply sN | apply sD)); exact HO_14.out) hb); replace HB := Aside0.mk (below_step (by repeat (first | (with_reducible first | exact HB.out | apply bA | apply bN | apply bD) | exact HB.out)) hb); (try clear hb); (try clear hb2); (try clear hk); (try clear hi)))
      go_ret2
      exact ⟨_, by first | rfl | (simp [*, errW_none, errW_some] <;> rfl), by (with_reducible repeat (first | apply sA | apply sN | apply sD)); exact HO_14.out, by repeat (first | (with_reducible first | exact HB.out | apply bA | apply bN | apply bD) | exact HB.out)⟩
   subst c29
   have H1 : (some (t280, false)) = some (r1, r2) := by rw [if_pos rfl] at H; exact H
   clear H
   have H := H1
   clear H1
   simp only [Option.some.injEq, Prod.mk.injEq] at H
   obtain ⟨rfl, rfl⟩ := H
   go_wp2
   go_ret2
   exact ⟨_, by first | rfl | (simp [*, errW_none, errW_some] <;> rfl), by (with_reducible repeat (first | apply sA | apply sN | apply sD)); exact HO_14.out, by repeat (first | (with_reducible first | exact HB.out | apply bA | apply bN | apply bD) | exact HB.out)⟩
mutual
def spec_l19Draw.l0 : Nat → List (S78) → Int → List Int → Int → Int → Option ((List (S78)) × Int × Int)
  | 0, _, _, _, _, _ => none
  | k + 1, x3, x4, x1000, x1001, x1002 => (spec_l1Below.f x1000 x1001 x1002 5).bind fun bt316 => (if x4 ≤ (wrap64 (2 + bt316.1)) then ((spec_l1Below.f x1000 bt316.2.1 bt316.2.2 3).bind fun bt319 => (if x3.length < 2199023255552 then (spec_l19Draw.l0 k (x3 ++ [(⟨wrap64 (2 * x4), wrap64 (1 + bt319.1), 0, 0, 0, ([] : List Int)⟩ : S78)]) (wrap64 (x4 + 1)) x1000 bt319.2.1 bt319.2.2) else (none))) else ((spec_l1Below.f x1000 bt316.2.1 bt316.2.2 7).bind fun bt325 => (spec_l19Draw.l1 k x3 bt325.1 x1000 bt325.2.1 bt325.2.2)))
def spec_l19Draw.l1 : Nat → List (S78) → Int → List Int → Int → Int → Option ((List (S78)) × Int × Int)
  | 0, _, _, _, _, _ => none
  | k + 1, x3, x5, x1000, x1001, x1002 => if x5 > 0 then ((spec_l1Below.f x1000 x1001 x1002 6).bind fun bt328 => ((spec_l1Below.f x1000 bt328.2.1 bt328.2.2 6).bind fun bt331 => ((spec_l1Below.f x1000 bt331.2.1 bt331.2.2 2).bind fun bt334 => ((spec_l1Below.f x1000 bt334.2.1 bt334.2.2 20).bind fun bt337 => ((spec_l1Below.f x1000 bt337.2.1 bt337.2.2 20).bind fun bt340 => ((spec_AddResult.f k x3 (wrap64 (2 * (wrap64 (1 + bt328.1)))) (wrap64 (2 * (wrap64 (1 + bt331.1)))) (wrap64 (1 + bt334.1)) (wrap64 (60 + bt337.1)) (wrap64 (60 + bt340.1))).bind fun bt343 => (spec_l19Draw.l1 k bt343.1 (wrap64 (x5 - 1)) x1000 bt340.2.1 bt340.2.2))))))) else (some (x3, x1001, x1002))
end
def spec_l19Draw.f (k : Nat) (s0_0 : List Int) (s0_1 : Int) (s0_2 : Int) : Option ((List (S78)) × Int × Int) := spec_l19Draw.l0 k (([] : List (S78))) 1 s0_0 s0_1 s0_2
set_option maxHeartbeats 8000000 in
set_option maxRecDepth 100000 in
theorem spec_l19Draw.calls (k : Nat) (g : Nat) (s0_0 : List Int) (s0_1 : Int) (s0_2 : Int) (r1 : List (S78)) (r2 : Int) (r3 : Int) (w0 w : World) (hI : IsS105 w0 w g s0_0 s0_1 s0_2) (hB : Below w0.heap.size w0 w) (h : spec_l19Draw.f k s0_0 s0_1 s0_2 = some (r1, r2, r3)) :
  Calls Try.prog 91 #[.pointer (some ⟨g, 0, none⟩)] w fun e w' => ∃ v0_ : Value, e = .returned (v0_) ∧ Kd.S k78 78 w' w.heap.size (fun _ => True) v0_ r1 ∧ IsS105 w0 w' g s0_0 r2 r3 ∧ Below w0.heap.size w0 w' ∧ KeepBut w w' g none := by
 have hu78 := Try.underlying78
 have HI0 := Aside0.mk hI
 have HK := Aside0.mk (KeepBut.refl w g none)
 have HL := Aside0.mk hB.size
 clear hI
 have HW0 := Aside0.mk hB.size
 have HB := Aside0.mk hB
 clear hB
 have H : (spec_l19Draw.l0 k (([] : List (S78))) 1 s0_0 s0_1 s0_2) = some (r1, r2, r3) := h
 clear h
 obtain ⟨y313, hy313⟩ : ∃ y_ : List (S78), y_ = (([] : List (S78))) := ⟨_, rfl⟩
 replace H : (spec_l19Draw.l0 k y313 1 s0_0 s0_1 s0_2) = some (r1, r2, r3) := by first | (rw [hy313]; with_reducible exact H) | (have H2_ := (Option.bind_some _ _).symm.trans H; rw [hy313]; with_reducible exact H2_) | (have H2_ := (Option.bind_some _ _).symm.trans H; with_reducible exact H2_) | with_reducible exact H | (rw [hy313]; exact H) | exact H
 have Ny313 := Aside0.mk hy313
 clear hy313
 have H' := Aside0.mk H
 clear H
 go_enter Try.func91, Try.ntmps91
 go_wp2_with (first | ((with_reducible refine gate_dst (N := 6) rfl ?_); refine Kd.S_lit k78 _ 78 ?hg (N := 6) ?hd (xs := ([] : List (S78))) (inner := []) (ok := fun _ => True) (okp := fun _ => True) ?hr ?hp (fun _ hk => hk) trivial (Below.refl _ _) (Nat.le_refl _) (by simp) ?_; (case hd => rfl); (case hg => rfl); (case hr => first | (go_simp; done) | (go_simp; rfl)); (case hp => exact (Reps.none _ _)); intro v314 w2 ho3 hb hg_ hnew_; clear hg_ hnew_; (first | rw [← Ny313.out] at ho3 | (simp only [Int.reduceToNat] at ho3; rw [← Ny313.out] at ho3)); have n0_ := Aside0.mk (Kd.S_lower ho3 (keep_size (w := w) (g := g) (row := none) (by repeat (first | (with_reducible first | exact HK.out | apply KeepBut.set_ | apply keep_drewN | apply keep_drew | apply keep_alloc) | exact HK.out)))); have n1_ := Aside0.mk (IsS105.below (by repeat (first | (with_reducible first | exact HI0.out | apply IsS105.alloc | apply IsS105.drewN | apply IsS105.drew | apply IsS105.set_1 | apply IsS105.set_2) | exact HI0.out)) hb); have n2_ := Aside0.mk (KeepBut.trans (by repeat (first | (with_reducible first | exact HK.out | apply KeepBut.set_ | apply keep_drewN | apply keep_drew | apply keep_alloc) | exact HK.out)) (KeepBut.of_below hb g none) (.inl rfl)); have n3_ := Aside0.mk (below_step (by repeat (first | (with_reducible first | exact HB.out | apply bA | apply bN | apply bD | refine below_set ?_ (IsS105.ge HI0.out)) | exact HB.out)) hb); clear HI0; clear HK; clear HB; have HO315 := n0_; have HI0 := n1_; have HK := n2_; have HB := n3_; clear n0_ n1_ n2_ n3_; clear hb ho3))
 go_loopg [3, 4] k (fun kq v3 v4 w' => ∃ (x3_1 : List (S78)) (x4_1 : Int) (x1001_1 : Int) (x1002_1 : Int), v4 = .int .i64 x4_1 ∧ Aside0 (spec_l19Draw.l0 kq x3_1 x4_1 s0_0 x1001_1 x1002_1 = some (r1, r2, r3)) ∧ Aside0 (kq ≤ k) ∧ Aside0 (Kd.S k78 78 w' w.heap.size (fun _ => True) v3 x3_1) ∧ Aside0 (IsS105 w0 w' g s0_0 x1001_1 x1002_1) ∧ Aside0 (KeepBut w w' g none) ∧ Aside0 (Below w0.heap.size w0 w'))
 case atStart => exact ⟨(y313), (1), (s0_1), (s0_2), (by first | rfl | (simp; done) | (simp [*]; done)), H', ⟨Nat.le_refl _⟩, ⟨by (with_reducible repeat (first | apply sA | apply sN | apply sD)); exact HO315.out⟩, ⟨by repeat (first | (with_reducible first | exact HI0.out | apply IsS105.alloc | apply IsS105.drewN | apply IsS105.drew | apply IsS105.set_1 | apply IsS105.set_2) | exact HI0.out)⟩, ⟨by repeat (first | (with_reducible first | exact HK.out | apply KeepBut.set_ | apply keep_drewN | apply keep_drew | apply keep_alloc) | exact HK.out)⟩, ⟨by repeat (first | (with_reducible first | exact HB.out | apply bA | apply bN | apply bD | refine below_set ?_ (IsS105.ge HI0.out)) | exact HB.out)⟩⟩
 case round =>
  clear H'
  try clear p2
  obtain ⟨x3_1, x4_1, x1001_1, x1002_1, rfl, HA, HK1, HO_3, HI0, HK, HB⟩ := hrel
  cases gk with
  | zero => exact absurd HA.out (by simp [spec_l19Draw.l0])
  | succ k1 =>
   have H := HA.out
   clear HA
   simp only [spec_l19Draw.l0] at H
   replace H := Option.bind_eq_some_iff.mp H
   obtain ⟨⟨t316, t317, t318⟩, A40, H⟩ := H
   replace H : (if x4_1 ≤ (wrap64 (2 + t316)) then ((spec_l1Below.f s0_0 t317 t318 3).bind fun bt319 => (if x3_1.length < 2199023255552 then (spec_l19Draw.l0 k1 (x3_1 ++ [(⟨wrap64 (2 * x4_1), wrap64 (1 + bt319.1), 0, 0, 0, ([] : List Int)⟩ : S78)]) (wrap64 (x4_1 + 1)) s0_0 bt319.2.1 bt319.2.2) else (none))) else ((spec_l1Below.f s0_0 t317 t318 7).bind fun bt325 => (spec_l19Draw.l1 k1 x3_1 bt325.1 s0_0 bt325.2.1 bt325.2.2))) = some (r1, r2, r3) := H
   have A4 := Aside0.mk A40
   clear A40
   by_cases c5 : x4_1 ≤ (wrap64 (2 + t316))
   rotate_left
   ·
    rw [if_neg c5] at H
    have c5b0 : decide (x4_1 ≤ (wrap64 (2 + t316))) = false := decide_eq_false c5
    clear c5
    replace H := Option.bind_eq_some_iff.mp H
    obtain ⟨⟨t325, t326, t327⟩, A110, H⟩ := H
    replace H : (spec_l19Draw.l1 k1 x3_1 t325 s0_0 t326 t327) = some (r1, r2, r3) := H
    have A11 := Aside0.mk A110
    clear A110
    have H' := Aside0.mk H
    clear H
    go_wp2_with (first | ((with_reducible refine gate_callee (f := 102) rfl ?_); refine goesL_ (some 9) rfl rfl Try.func102 (by kernel_rfl) rfl #[.pointer (some ⟨g, 0, none⟩), .int .i64 5] rfl (by (try simp only [Y1, Y2, Y3]); first | done | rfl | (simp only [Y4, Y5]; rfl)) ?_; (with_reducible refine (spec_l1Below.calls g s0_0 x1001_1 x1002_1 5 t316 t317 t318 w0 _ ?side1 ?side2 A4.out).mono ?_); (case side1 => repeat (first | (with_reducible first | exact HI0.out | apply IsS105.alloc | apply IsS105.drewN | apply IsS105.drew | apply IsS105.set_1 | apply IsS105.set_2) | exact HI0.out)); (case side2 => repeat (first | (with_reducible first | exact HB.out | apply bA | apply bN | apply bD | refine below_set ?_ (IsS105.ge HI0.out)) | exact HB.out)); rintro e w12 ⟨rfl, hi, hb, hk⟩; refine ⟨_, rfl, ?_⟩; replace HO_3 := Aside0.mk (Kd.S_mono (Kd.S_keep (IsS105.apartS (show IsS105 w0 _ g s0_0 x1001_1 x1002_1 from by repeat (first | (with_reducible first | exact HI0.out | apply IsS105.alloc | apply IsS105.drewN | apply IsS105.drew | apply IsS105.set_1 | apply IsS105.set_2) | exact HI0.out)) (by (with_reducible repeat (first | apply sA | apply sN | apply sD)); exact HO_3.out) (by decide)) hk (fun _ h => h.2)) (fun _ h => h.1)); replace HK := Aside0.mk (KeepBut.trans (by repeat (first | (with_reducible first | exact HK.out | apply KeepBut.set_ | apply keep_drewN | apply keep_drew | apply keep_alloc) | exact HK.out)) hk (.inl rfl)); replace HB := Aside0.mk (hb); replace HI0 := Aside0.mk (hi); (try clear hb); (try clear hb2); (try clear hk); (try clear hi)) | ((with_reducible refine gate_callee (f := 102) rfl ?_); refine goesL_ (some 24) rfl rfl Try.func102 (by kernel_rfl) rfl #[.pointer (some ⟨g, 0, none⟩), .int .i64 7] rfl (by (try simp only [Y1, Y2, Y3]); first | done | rfl | (simp only [Y4, Y5]; rfl)) ?_; (with_reducible refine (spec_l1Below.calls g s0_0 t317 t318 7 t325 t326 t327 w0 _ ?side1 ?side2 A11.out).mono ?_); (case side1 => repeat (first | (with_reducible first | exact HI0.out | apply IsS105.alloc | apply IsS105.drewN | apply IsS105.drew | apply IsS105.set_1 | apply IsS105.set_2) | exact HI0.out)); (case side2 => repeat (first | (with_reducible first | exact HB.out | apply bA | apply bN | apply bD | refine below_set ?_ (IsS105.ge HI0.out)) | exact HB.out)); rintro e w13 ⟨rfl, hi, hb, hk⟩; refine ⟨_, rfl, ?_⟩; replace HO_3 := Aside0.mk (Kd.S_mono (Kd.S_keep (IsS105.apartS (show IsS105 w0 _ g s0_0 t317 t318 from by repeat (first | (with_reducible first | exact HI0.out | apply IsS105.alloc | apply IsS105.drewN | apply IsS105.drew | apply IsS105.set_1 | apply IsS105.set_2) | exact HI0.out)) (by (with_reducible repeat (first | apply sA | apply sN | apply sD)); exact HO_3.out) (by decide)) hk (fun _ h => h.2)) (fun _ h => h.1)); replace HK := Aside0.mk (KeepBut.trans (by repeat (first | (with_reducible first | exact HK.out | apply KeepBut.set_ | apply keep_drewN | apply keep_drew | apply keep_alloc) | exact HK.out)) hk (.inl rfl)); replace HB := Aside0.mk (hb); replace HI0 := Aside0.mk (hi); (try clear hb); (try clear hb2); (try clear hk); (try clear hi)))
    go_loopg [3, 5] k1 (fun kq v3 v5 w' => ∃ (x3_2 : List (S78)) (x5_2 : Int) (x1001_2 : Int) (x1002_2 : Int), v5 = .int .i64 x5_2 ∧ Aside0 (spec_l19Draw.l1 kq x3_2 x5_2 s0_0 x1001_2 x1002_2 = some (r1, r2, r3)) ∧ Aside0 (kq ≤ k1) ∧ Aside0 (Kd.S k78 78 w' w.heap.size (fun _ => True) v3 x3_2) ∧ Aside0 (IsS105 w0 w' g s0_0 x1001_2 x1002_2) ∧ Aside0 (KeepBut w w' g none) ∧ Aside0 (Below w0.heap.size w0 w'))
    case atStart => exact ⟨(x3_1), (t325), (t326), (t327), (by first | rfl | (simp; done) | (simp [*]; done)), H', ⟨Nat.le_refl _⟩, ⟨by (with_reducible repeat (first | apply sA | apply sN | apply sD)); exact HO_3.out⟩, ⟨by repeat (first | (with_reducible first | exact HI0.out | apply IsS105.alloc | apply IsS105.drewN | apply IsS105.drew | apply IsS105.set_1 | apply IsS105.set_2) | exact HI0.out)⟩, ⟨by repeat (first | (with_reducible first | exact HK.out | apply KeepBut.set_ | apply keep_drewN | apply keep_drew | apply keep_alloc) | exact HK.out)⟩, ⟨by repeat (first | (with_reducible first | exact HB.out | apply bA | apply bN | apply bD | refine below_set ?_ (IsS105.ge HI0.out)) | exact HB.out)⟩⟩
    case round =>
     clear H'
     try clear c1
     try clear p2
     try clear c5
     try clear c5b0
     try clear p6
     try clear c7
     try clear c9
     try clear c10
     try clear p2
     obtain ⟨x3_2, x5_2, x1001_2, x1002_2, rfl, HA, HK2, HO_3, HI0, HK, HB⟩ := hrel
     cases gk with
     | zero => exact absurd HA.out (by simp [spec_l19Draw.l1])
     | succ k2 =>
      have H := HA.out
      clear HA
      simp only [spec_l19Draw.l1] at H
      by_cases c14 : x5_2 > 0
      rotate_left
      ·
       rw [if_neg c14] at H
       have c14b0 : decide (0 < x5_2) = false := decide_eq_false c14
       clear c14
       simp only [Option.some.injEq, Prod.mk.injEq] at H
       obtain ⟨rfl, rfl, rfl⟩ := H
       go_wp2
       go_ret
       exact ⟨_, by first | rfl | (simp [*, errW_none, errW_some] <;> rfl), by (with_reducible repeat (first | apply sA | apply sN | apply sD)); exact HO_3.out, by repeat (first | (with_reducible first | exact HI0.out | apply IsS105.alloc | apply IsS105.drewN | apply IsS105.drew | apply IsS105.set_1 | apply IsS105.set_2) | exact HI0.out), by repeat (first | (with_reducible first | exact HB.out | apply bA | apply bN | apply bD | refine below_set ?_ (IsS105.ge HI0.out)) | exact HB.out), by repeat (first | (with_reducible first | exact HK.out | apply KeepBut.set_ | apply keep_drewN | apply keep_drew | apply keep_alloc) | exact HK.out)⟩

      rw [if_pos c14] at H
      have c14b0 : decide (0 < x5_2) = true := decide_eq_true c14
      clear c14
      replace H := Option.bind_eq_some_iff.mp H
      obtain ⟨⟨t328, t329, t330⟩, A150, H⟩ := H
      replace H : ((spec_l1Below.f s0_0 t329 t330 6).bind fun bt331 => ((spec_l1Below.f s0_0 bt331.2.1 bt331.2.2 2).bind fun bt334 => ((spec_l1Below.f s0_0 bt334.2.1 bt334.2.2 20).bind fun bt337 => ((spec_l1Below.f s0_0 bt337.2.1 bt337.2.2 20).bind fun bt340 => ((spec_AddResult.f k2 x3_2 (wrap64 (2 * (wrap64 (1 + t328)))) (wrap64 (2 * (wrap64 (1 + bt331.1)))) (wrap64 (1 + bt334.1)) (wrap64 (60 + bt337.1)) (wrap64 (60 + bt340.1))).bind fun bt343 => (spec_l19Draw.l1 k2 bt343.1 (wrap64 (x5_2 - 1)) s0_0 bt340.2.1 bt340.2.2)))))) = some (r1, r2, r3) := H
      have A15 := Aside0.mk A150
      clear A150
      replace H := Option.bind_eq_some_iff.mp H
      obtain ⟨⟨t331, t332, t333⟩, A160, H⟩ := H
      replace H : ((spec_l1Below.f s0_0 t332 t333 2).bind fun bt334 => ((spec_l1Below.f s0_0 bt334.2.1 bt334.2.2 20).bind fun bt337 => ((spec_l1Below.f s0_0 bt337.2.1 bt337.2.2 20).bind fun bt340 => ((spec_AddResult.f k2 x3_2 (wrap64 (2 * (wrap64 (1 + t328)))) (wrap64 (2 * (wrap64 (1 + t331)))) (wrap64 (1 + bt334.1)) (wrap64 (60 + bt337.1)) (wrap64 (60 + bt340.1))).bind fun bt343 => (spec_l19Draw.l1 k2 bt343.1 (wrap64 (x5_2 - 1)) s0_0 bt340.2.1 bt340.2.2))))) = some (r1, r2, r3) := H
      have A16 := Aside0.mk A160
      clear A160
      replace H := Option.bind_eq_some_iff.mp H
      obtain ⟨⟨t334, t335, t336⟩, A170, H⟩ := H
      replace H : ((spec_l1Below.f s0_0 t335 t336 20).bind fun bt337 => ((spec_l1Below.f s0_0 bt337.2.1 bt337.2.2 20).bind fun bt340 => ((spec_AddResult.f k2 x3_2 (wrap64 (2 * (wrap64 (1 + t328)))) (wrap64 (2 * (wrap64 (1 + t331)))) (wrap64 (1 + t334)) (wrap64 (60 + bt337.1)) (wrap64 (60 + bt340.1))).bind fun bt343 => (spec_l19Draw.l1 k2 bt343.1 (wrap64 (x5_2 - 1)) s0_0 bt340.2.1 bt340.2.2)))) = some (r1, r2, r3) := H
      have A17 := Aside0.mk A170
      clear A170
      replace H := Option.bind_eq_some_iff.mp H
      obtain ⟨⟨t337, t338, t339⟩, A180, H⟩ := H
      replace H : ((spec_l1Below.f s0_0 t338 t339 20).bind fun bt340 => ((spec_AddResult.f k2 x3_2 (wrap64 (2 * (wrap64 (1 + t328)))) (wrap64 (2 * (wrap64 (1 + t331)))) (wrap64 (1 + t334)) (wrap64 (60 + t337)) (wrap64 (60 + bt340.1))).bind fun bt343 => (spec_l19Draw.l1 k2 bt343.1 (wrap64 (x5_2 - 1)) s0_0 bt340.2.1 bt340.2.2))) = some (r1, r2, r3) := H
      have A18 := Aside0.mk A180
      clear A180
      replace H := Option.bind_eq_some_iff.mp H
      obtain ⟨⟨t340, t341, t342⟩, A190, H⟩ := H
      replace H : ((spec_AddResult.f k2 x3_2 (wrap64 (2 * (wrap64 (1 + t328)))) (wrap64 (2 * (wrap64 (1 + t331)))) (wrap64 (1 + t334)) (wrap64 (60 + t337)) (wrap64 (60 + t340))).bind fun bt343 => (spec_l19Draw.l1 k2 bt343.1 (wrap64 (x5_2 - 1)) s0_0 t341 t342)) = some (r1, r2, r3) := H
      have A19 := Aside0.mk A190
      clear A190
      replace H := Option.bind_eq_some_iff.mp H
      obtain ⟨⟨t343, t344⟩, A200, H⟩ := H
      replace H : (spec_l19Draw.l1 k2 t343 (wrap64 (x5_2 - 1)) s0_0 t341 t342) = some (r1, r2, r3) := H
      have A20 := Aside0.mk A200
      clear A200
      have H' := Aside0.mk H
      clear H
      go_wp2_with (first | ((with_reducible refine gate_callee (f := 102) rfl ?_); refine goesL_ (some 32) rfl rfl Try.func102 (by kernel_rfl) rfl #[.pointer (some ⟨g, 0, none⟩), .int .i64 6] rfl (by (try simp only [Y1, Y2, Y3]); first | done | rfl | (simp only [Y4, Y5]; rfl)) ?_; (with_reducible refine (spec_l1Below.calls g s0_0 x1001_2 x1002_2 6 t328 t329 t330 w0 _ ?side1 ?side2 A15.out).mono ?_); (case side1 => repeat (first | (with_reducible first | exact HI0.out | apply IsS105.alloc | apply IsS105.drewN | apply IsS105.drew | apply IsS105.set_1 | apply IsS105.set_2) | exact HI0.out)); (case side2 => repeat (first | (with_reducible first | exact HB.out | apply bA | apply bN | apply bD | refine below_set ?_ (IsS105.ge HI0.out)) | exact HB.out)); rintro e w21 ⟨rfl, hi, hb, hk⟩; refine ⟨_, rfl, ?_⟩; replace HO_3 := Aside0.mk (Kd.S_mono (Kd.S_keep (IsS105.apartS (show IsS105 w0 _ g s0_0 x1001_2 x1002_2 from by repeat (first | (with_reducible first | exact HI0.out | apply IsS105.alloc | apply IsS105.drewN | apply IsS105.drew | apply IsS105.set_1 | apply IsS105.set_2) | exact HI0.out)) (by (with_reducible repeat (first | apply sA | apply sN | apply sD)); exact HO_3.out) (by decide)) hk (fun _ h => h.2)) (fun _ h => h.1)); replace HK := Aside0.mk (KeepBut.trans (by repeat (first | (with_reducible first | exact HK.out | apply KeepBut.set_ | apply keep_drewN | apply keep_drew | apply keep_alloc) | exact HK.out)) hk (.inl rfl)); replace HB := Aside0.mk (hb); replace HI0 := Aside0.mk (hi); (try clear hb); (try clear hb2); (try clear hk); (try clear hi)) | ((with_reducible refine gate_callee (f := 102) rfl ?_); refine goesL_ (some 36) rfl rfl Try.func102 (by kernel_rfl) rfl #[.pointer (some ⟨g, 0, none⟩), .int .i64 6] rfl (by (try simp only [Y1, Y2, Y3]); first | done | rfl | (simp only [Y4, Y5]; rfl)) ?_; (with_reducible refine (spec_l1Below.calls g s0_0 t329 t330 6 t331 t332 t333 w0 _ ?side1 ?side2 A16.out).mono ?_); (case side1 => repeat (first | (with_reducible first | exact HI0.out | apply IsS105.alloc | apply IsS105.drewN | apply IsS105.drew | apply IsS105.set_1 | apply IsS105.set_2) | exact HI0.out)); (case side2 => repeat (first | (with_reducible first | exact HB.out | apply bA | apply bN | apply bD | refine below_set ?_ (IsS105.ge HI0.out)) | exact HB.out)); rintro e w22 ⟨rfl, hi, hb, hk⟩; refine ⟨_, rfl, ?_⟩; replace HO_3 := Aside0.mk (Kd.S_mono (Kd.S_keep (IsS105.apartS (show IsS105 w0 _ g s0_0 t329 t330 from by repeat (first | (with_reducible first | exact HI0.out | apply IsS105.alloc | apply IsS105.drewN | apply IsS105.drew | apply IsS105.set_1 | apply IsS105.set_2) | exact HI0.out)) (by (with_reducible repeat (first | apply sA | apply sN | apply sD)); exact HO_3.out) (by decide)) hk (fun _ h => h.2)) (fun _ h => h.1)); replace HK := Aside0.mk (KeepBut.trans (by repeat (first | (with_reducible first | exact HK.out | apply KeepBut.set_ | apply keep_drewN | apply keep_drew | apply keep_alloc) | exact HK.out)) hk (.inl rfl)); replace HB := Aside0.mk (hb); replace HI0 := Aside0.mk (hi); (try clear hb); (try clear hb2); (try clear hk); (try clear hi)) | ((with_reducible refine gate_callee (f := 102) rfl ?_); refine goesL_ (some 40) rfl rfl Try.func102 (by kernel_rfl) rfl #[.pointer (some ⟨g, 0, none⟩), .int .i64 2] rfl (by (try simp only [Y1, Y2, Y3]); first | done | rfl | (simp only [Y4, Y5]; rfl)) ?_; (with_reducible refine (spec_l1Below.calls g s0_0 t332 t333 2 t334 t335 t336 w0 _ ?side1 ?side2 A17.out).mono ?_); (case side1 => repeat (first | (with_reducible first | exact HI0.out | apply IsS105.alloc | apply IsS105.drewN | apply IsS105.drew | apply IsS105.set_1 | apply IsS105.set_2) | exact HI0.out)); (case side2 => repeat (first | (with_reducible first | exact HB.out | apply bA | apply bN | apply bD | refine below_set ?_ (IsS105.ge HI0.out)) | exact HB.out)); rintro e w23 ⟨rfl, hi, hb, hk⟩; refine ⟨_, rfl, ?_⟩; replace HO_3 := Aside0.mk (Kd.S_mono (Kd.S_keep (IsS105.apartS (show IsS105 w0 _ g s0_0 t332 t333 from by repeat (first | (with_reducible first | exact HI0.out | apply IsS105.alloc | apply IsS105.drewN | apply IsS105.drew | apply IsS105.set_1 | apply IsS105.set_2) | exact HI0.out)) (by (with_reducible repeat (first | apply sA | apply sN | apply sD)); exact HO_3.out) (by decide)) hk (fun _ h => h.2)) (fun _ h => h.1)); replace HK := Aside0.mk (KeepBut.trans (by repeat (first | (with_reducible first | exact HK.out | apply KeepBut.set_ | apply keep_drewN | apply keep_drew | apply keep_alloc) | exact HK.out)) hk (.inl rfl)); replace HB := Aside0.mk (hb); replace HI0 := Aside0.mk (hi); (try clear hb); (try clear hb2); (try clear hk); (try clear hi)) | ((with_reducible refine gate_callee (f := 102) rfl ?_); refine goesL_ (some 43) rfl rfl Try.func102 (by kernel_rfl) rfl #[.pointer (some ⟨g, 0, none⟩), .int .i64 20] rfl (by (try simp only [Y1, Y2, Y3]); first | done | rfl | (simp only [Y4, Y5]; rfl)) ?_; (with_reducible refine (spec_l1Below.calls g s0_0 t335 t336 20 t337 t338 t339 w0 _ ?side1 ?side2 A18.out).mono ?_); (case side1 => repeat (first | (with_reducible first | exact HI0.out | apply IsS105.alloc | apply IsS105.drewN | apply IsS105.drew | apply IsS105.set_1 | apply IsS105.set_2) | exact HI0.out)); (case side2 => repeat (first | (with_reducible first | exact HB.out | apply bA | apply bN | apply bD | refine below_set ?_ (IsS105.ge HI0.out)) | exact HB.out)); rintro e w24 ⟨rfl, hi, hb, hk⟩; refine ⟨_, rfl, ?_⟩; replace HO_3 := Aside0.mk (Kd.S_mono (Kd.S_keep (IsS105.apartS (show IsS105 w0 _ g s0_0 t335 t336 from by repeat (first | (with_reducible first | exact HI0.out | apply IsS105.alloc | apply IsS105.drewN | apply IsS105.drew | apply IsS105.set_1 | apply IsS105.set_2) | exact HI0.out)) (by (with_reducible repeat (first | apply sA | apply sN | apply sD)); exact HO_3.out) (by decide)) hk (fun _ h => h.2)) (fun _ h => h.1)); replace HK := Aside0.mk (KeepBut.trans (by repeat (first | (with_reducible first | exact HK.out | apply KeepBut.set_ | apply keep_drewN | apply keep_drew | apply keep_alloc) | exact HK.out)) hk (.inl rfl)); replace HB := Aside0.mk (hb); replace HI0 := Aside0.mk (hi); (try clear hb); (try clear hb2); (try clear hk); (try clear hi)) | ((with_reducible refine gate_callee (f := 102) rfl ?_); refine goesL_ (some 46) rfl rfl Try.func102 (by kernel_rfl) rfl #[.pointer (some ⟨g, 0, none⟩), .int .i64 20] rfl (by (try simp only [Y1, Y2, Y3]); first | done | rfl | (simp only [Y4, Y5]; rfl)) ?_; (with_reducible refine (spec_l1Below.calls g s0_0 t338 t339 20 t340 t341 t342 w0 _ ?side1 ?side2 A19.out).mono ?_); (case side1 => repeat (first | (with_reducible first | exact HI0.out | apply IsS105.alloc | apply IsS105.drewN | apply IsS105.drew | apply IsS105.set_1 | apply IsS105.set_2) | exact HI0.out)); (case side2 => repeat (first | (with_reducible first | exact HB.out | apply bA | apply bN | apply bD | refine below_set ?_ (IsS105.ge HI0.out)) | exact HB.out)); rintro e w25 ⟨rfl, hi, hb, hk⟩; refine ⟨_, rfl, ?_⟩; replace HO_3 := Aside0.mk (Kd.S_mono (Kd.S_keep (IsS105.apartS (show IsS105 w0 _ g s0_0 t338 t339 from by repeat (first | (with_reducible first | exact HI0.out | apply IsS105.alloc | apply IsS105.drewN | apply IsS105.drew | apply IsS105.set_1 | apply IsS105.set_2) | exact HI0.out)) (by (with_reducible repeat (first | apply sA | apply sN | apply sD)); exact HO_3.out) (by decide)) hk (fun _ h => h.2)) (fun _ h => h.1)); replace HK := Aside0.mk (KeepBut.trans (by repeat (first | (with_reducible first | exact HK.out | apply KeepBut.set_ | apply keep_drewN | apply keep_drew | apply keep_alloc) | exact HK.out)) hk (.inl rfl)); replace HB := Aside0.mk (hb); replace HI0 := Aside0.mk (hi); (try clear hb); (try clear hb2); (try clear hk); (try clear hi); obtain ⟨Ao26, co26, eo26⟩ := Kd.S_slice HO_3.out; subst eo26) | ((with_reducible refine gate_callee (f := 103) rfl ?_); refine goesL_ (some 48) rfl rfl Try.func103 (by kernel_rfl) rfl #[.slice Ao26 x3_2.length co26, .int .i64 (wrap64 (2 * (wrap64 (1 + t328)))), .int .i64 (wrap64 (2 * (wrap64 (1 + t331)))), .int .i64 (wrap64 (1 + t334)), .int .i64 (wrap64 (60 + t337)), .int .i64 (wrap64 (60 + t340))] rfl (by (try simp only [Y1, Y2, Y3]); first | done | rfl | (simp only [Y4, Y5]; rfl)) ?_; (with_reducible refine (spec_AddResult.calls k2 _ _ x3_2 (wrap64 (2 * (wrap64 (1 + t328)))) (wrap64 (2 * (wrap64 (1 + t331)))) (wrap64 (1 + t334)) (wrap64 (60 + t337)) (wrap64 (60 + t340)) t343 t344 _ ?side1 ?side2 A20.out).mono ?_); (case side1 => repeat (first | exact (Kd.S_reads' HO_3.out).2.2 | (with_reducible first | refine cA ?_ _ | refine cN ?_ _ | refine cD ?_))); (case side2 => exact (Kd.S_reads' HO_3.out).2.1); rintro e w27 ⟨v345, rfl, ho0, hb⟩; refine ⟨_, rfl, ?_⟩; have n0_ := Aside0.mk (Kd.S_elder' (by (with_reducible repeat (first | apply sA | apply sN | apply sD)); exact HO_3.out) (Kd.S_base ho0) hb); have n1_ := Aside0.mk (Kd.S_lower (Kd.S_new' ho0 (Kd.S_lt (by (with_reducible repeat (first | apply sA | apply sN | apply sD)); exact HO_3.out))) (keep_size (w := w) (g := g) (row := none) (by repeat (first | (with_reducible first | exact HK.out | apply KeepBut.set_ | apply keep_drewN | apply keep_drew | apply keep_alloc) | exact HK.out)))); have n2_ := Aside0.mk (IsS105.below (by repeat (first | (with_reducible first | exact HI0.out | apply IsS105.alloc | apply IsS105.drewN | apply IsS105.drew | apply IsS105.set_1 | apply IsS105.set_2) | exact HI0.out)) hb); have n3_ := Aside0.mk (KeepBut.trans (by repeat (first | (with_reducible first | exact HK.out | apply KeepBut.set_ | apply keep_drewN | apply keep_drew | apply keep_alloc) | exact HK.out)) (KeepBut.of_below hb g none) (.inl rfl)); have n4_ := Aside0.mk (below_step (by repeat (first | (with_reducible first | exact HB.out | apply bA | apply bN | apply bD | refine below_set ?_ (IsS105.ge HI0.out)) | exact HB.out)) hb); clear HO_3; clear HI0; clear HK; clear HB; have HO_3 := n0_; have HO346 := n1_; have HI0 := n2_; have HK := n3_; have HB := n4_; clear n0_ n1_ n2_ n3_ n4_; (try clear hb); (try clear hb2); (try clear hk); (try clear hi); (try clear ho0)))
      go_roundg k2
      case measure => have := HK1.out; have := HK2.out; omega
      case rel => exact ⟨(t343), (wrap64 (x5_2 - 1)), (t341), (t342), (by first | rfl | (simp; done) | (simp [*]; done)), H', ⟨by have := HK1.out; have := HK2.out; omega⟩, ⟨by (with_reducible repeat (first | apply sA | apply sN | apply sD)); exact Kd.S_mono HO346.out (fun _ hk => trivial)⟩, ⟨by repeat (first | (with_reducible first | exact HI0.out | apply IsS105.alloc | apply IsS105.drewN | apply IsS105.drew | apply IsS105.set_1 | apply IsS105.set_2) | exact HI0.out)⟩, ⟨by repeat (first | (with_reducible first | exact HK.out | apply KeepBut.set_ | apply keep_drewN | apply keep_drew | apply keep_alloc) | exact HK.out)⟩, ⟨by repeat (first | (with_reducible first | exact HB.out | apply bA | apply bN | apply bD | refine below_set ?_ (IsS105.ge HI0.out)) | exact HB.out)⟩⟩
   rw [if_pos c5] at H
   have c5b0 : decide (x4_1 ≤ (wrap64 (2 + t316))) = true := decide_eq_true c5
   clear c5
   replace H := Option.bind_eq_some_iff.mp H
   obtain ⟨⟨t319, t320, t321⟩, A60, H⟩ := H
   replace H : (if x3_1.length < 2199023255552 then (spec_l19Draw.l0 k1 (x3_1 ++ [(⟨wrap64 (2 * x4_1), wrap64 (1 + t319), 0, 0, 0, ([] : List Int)⟩ : S78)]) (wrap64 (x4_1 + 1)) s0_0 t320 t321) else (none)) = some (r1, r2, r3) := H
   have A6 := Aside0.mk A60
   clear A60
   by_cases c7 : x3_1.length < 2199023255552
   rotate_left
   ·
    rw [if_neg c7] at H
    exact absurd H (by simp)
   rw [if_pos c7] at H
   have LMc7 := Aside0.mk c7
   clear c7
   obtain ⟨y322, hy322⟩ : ∃ y_ : List (S78), y_ = (x3_1 ++ [(⟨wrap64 (2 * x4_1), wrap64 (1 + t319), 0, 0, 0, ([] : List Int)⟩ : S78)]) := ⟨_, rfl⟩
   replace H : (spec_l19Draw.l0 k1 y322 (wrap64 (x4_1 + 1)) s0_0 t320 t321) = some (r1, r2, r3) := by first | (rw [hy322]; with_reducible exact H) | (have H2_ := (Option.bind_some _ _).symm.trans H; rw [hy322]; with_reducible exact H2_) | (have H2_ := (Option.bind_some _ _).symm.trans H; with_reducible exact H2_) | with_reducible exact H | (rw [hy322]; exact H) | exact H
   have Ny322 := Aside0.mk hy322
   clear hy322
   have H' := Aside0.mk H
   clear H
   go_wp2_with (first | ((with_reducible refine gate_callee (f := 102) rfl ?_); refine goesL_ (some 9) rfl rfl Try.func102 (by kernel_rfl) rfl #[.pointer (some ⟨g, 0, none⟩), .int .i64 5] rfl (by (try simp only [Y1, Y2, Y3]); first | done | rfl | (simp only [Y4, Y5]; rfl)) ?_; (with_reducible refine (spec_l1Below.calls g s0_0 x1001_1 x1002_1 5 t316 t317 t318 w0 _ ?side1 ?side2 A4.out).mono ?_); (case side1 => repeat (first | (with_reducible first | exact HI0.out | apply IsS105.alloc | apply IsS105.drewN | apply IsS105.drew | apply IsS105.set_1 | apply IsS105.set_2) | exact HI0.out)); (case side2 => repeat (first | (with_reducible first | exact HB.out | apply bA | apply bN | apply bD | refine below_set ?_ (IsS105.ge HI0.out)) | exact HB.out)); rintro e w8 ⟨rfl, hi, hb, hk⟩; refine ⟨_, rfl, ?_⟩; replace HO_3 := Aside0.mk (Kd.S_mono (Kd.S_keep (IsS105.apartS (show IsS105 w0 _ g s0_0 x1001_1 x1002_1 from by repeat (first | (with_reducible first | exact HI0.out | apply IsS105.alloc | apply IsS105.drewN | apply IsS105.drew | apply IsS105.set_1 | apply IsS105.set_2) | exact HI0.out)) (by (with_reducible repeat (first | apply sA | apply sN | apply sD)); exact HO_3.out) (by decide)) hk (fun _ h => h.2)) (fun _ h => h.1)); replace HK := Aside0.mk (KeepBut.trans (by repeat (first | (with_reducible first | exact HK.out | apply KeepBut.set_ | apply keep_drewN | apply keep_drew | apply keep_alloc) | exact HK.out)) hk (.inl rfl)); replace HB := Aside0.mk (hb); replace HI0 := Aside0.mk (hi); (try clear hb); (try clear hb2); (try clear hk); (try clear hi)) | ((with_reducible refine gate_callee (f := 102) rfl ?_); refine goesL_ (some 18) rfl rfl Try.func102 (by kernel_rfl) rfl #[.pointer (some ⟨g, 0, none⟩), .int .i64 3] rfl (by (try simp only [Y1, Y2, Y3]); first | done | rfl | (simp only [Y4, Y5]; rfl)) ?_; (with_reducible refine (spec_l1Below.calls g s0_0 t317 t318 3 t319 t320 t321 w0 _ ?side1 ?side2 A6.out).mono ?_); (case side1 => repeat (first | (with_reducible first | exact HI0.out | apply IsS105.alloc | apply IsS105.drewN | apply IsS105.drew | apply IsS105.set_1 | apply IsS105.set_2) | exact HI0.out)); (case side2 => repeat (first | (with_reducible first | exact HB.out | apply bA | apply bN | apply bD | refine below_set ?_ (IsS105.ge HI0.out)) | exact HB.out)); rintro e w9 ⟨rfl, hi, hb, hk⟩; refine ⟨_, rfl, ?_⟩; replace HO_3 := Aside0.mk (Kd.S_mono (Kd.S_keep (IsS105.apartS (show IsS105 w0 _ g s0_0 t317 t318 from by repeat (first | (with_reducible first | exact HI0.out | apply IsS105.alloc | apply IsS105.drewN | apply IsS105.drew | apply IsS105.set_1 | apply IsS105.set_2) | exact HI0.out)) (by (with_reducible repeat (first | apply sA | apply sN | apply sD)); exact HO_3.out) (by decide)) hk (fun _ h => h.2)) (fun _ h => h.1)); replace HK := Aside0.mk (KeepBut.trans (by repeat (first | (with_reducible first | exact HK.out | apply KeepBut.set_ | apply keep_drewN | apply keep_drew | apply keep_alloc) | exact HK.out)) hk (.inl rfl)); replace HB := Aside0.mk (hb); replace HI0 := Aside0.mk (hi); (try clear hb); (try clear hb2); (try clear hk); (try clear hi)) | ((with_reducible refine gate_builtin (b := .append) (xs := #[.tmp 14, .tmp 21]) rfl ?_); at_builtin; refine Kd.S_append k78 w.heap.size rfl (.tmp 14) (.tmp 21) 44 78 (.agg #[(.int .i64 0), (.int .i64 0), (.int .i64 0), (.int .i64 0), (.int .i64 0), (.slice none 0 0)]) 64 rfl Try.underlying44 info78 rfl (by decide) (by omega) u3 x3_1 (⟨wrap64 (2 * x4_1), wrap64 (1 + t319), 0, 0, 0, ([] : List Int)⟩ : S78) [.int .i64 (wrap64 (2 * x4_1)), .int .i64 (wrap64 (1 + t319)), .int .i64 0, .int .i64 0, .int .i64 0, .slice none 0 0] (fun _ => True) (fun _ => False) rfl rfl ?aP (fun k_ hk_ => hk_.elim) ?aF ?aO (Below.refl _ _) ?aS ?aL ?_; (case aP => exact k78_mkM _ _ _ (⟨wrap64 (2 * x4_1), wrap64 (1 + t319), 0, 0, 0, ([] : List Int)⟩ : S78) (Kd.R_nil _ _ _ _ _)); (case aF => exact (fun _ _ => trivial)); (case aO => exact (by (with_reducible repeat (first | apply sA | apply sN | apply sD)); exact Kd.S_mono HO_3.out (fun k_ hk => ⟨trivial, fun e_ => e_⟩))); (case aS => exact (keep_size (w := w) (g := g) (row := none) (by repeat (first | (with_reducible first | exact HK.out | apply KeepBut.set_ | apply keep_drewN | apply keep_drew | apply keep_alloc) | exact HK.out)))); (case aL => have := LMc7.out; omega); intro v323 w10 ho hb hg hat; rw [← Ny322.out] at ho; have n0_ := Aside0.mk (IsS105.grown (by repeat (first | (with_reducible first | exact HI0.out | apply IsS105.alloc | apply IsS105.drewN | apply IsS105.drew | apply IsS105.set_1 | apply IsS105.set_2) | exact HI0.out)) hg (IsS105.own_neS HI0.out HO_3.out (by decide))); have n1_ := Aside0.mk (below_weaken (by repeat (first | (with_reducible first | exact HB.out | apply bA | apply bN | apply bD | refine below_set ?_ (IsS105.ge HI0.out)) | exact HB.out)) HL.out hb); have n2_ := Aside0.mk (KeepBut.trans (by repeat (first | (with_reducible first | exact HK.out | apply KeepBut.set_ | apply keep_drewN | apply keep_drew | apply keep_alloc) | exact HK.out)) (KeepBut.of_grown hg g) (Kd.S_base2 HO_3.out)); have n3_ := Aside0.mk (ho); clear HI0; clear HB; clear HK; clear HO_3; have HI0 := n0_; have HB := n1_; have HK := n2_; have HO324 := n3_; clear n0_ n1_ n2_ n3_; clear ho hb hg hat))
   go_roundg k1
   case measure => have := HK1.out; omega
   case rel => exact ⟨(y322), (wrap64 (x4_1 + 1)), (t320), (t321), (by first | rfl | (simp; done) | (simp [*]; done)), H', ⟨by have := HK1.out; omega⟩, ⟨by (with_reducible repeat (first | apply sA | apply sN | apply sD)); exact HO324.out⟩, ⟨by repeat (first | (with_reducible first | exact HI0.out | apply IsS105.alloc | apply IsS105.drewN | apply IsS105.drew | apply IsS105.set_1 | apply IsS105.set_2) | exact HI0.out)⟩, ⟨by repeat (first | (with_reducible first | exact HK.out | apply KeepBut.set_ | apply keep_drewN | apply keep_drew | apply keep_alloc) | exact HK.out)⟩, ⟨by repeat (first | (with_reducible first | exact HB.out | apply bA | apply bN | apply bD | refine below_set ?_ (IsS105.ge HI0.out)) | exact HB.out)⟩⟩
def spec_l1Once.f (s0_0 : List Int) (s0_1 : Int) (s0_2 : Int) (a1 : Int) : Option (Bool × Int × Int) := (spec_l1Below.f s0_0 s0_1 s0_2 a1).bind fun bt347 => (some ((bt347.1 == 0), bt347.2.1, bt347.2.2))
set_option maxHeartbeats 8000000 in
set_option maxRecDepth 100000 in
theorem spec_l1Once.calls (g : Nat) (s0_0 : List Int) (s0_1 : Int) (s0_2 : Int) (a1 : Int) (r1 : Bool) (r2 : Int) (r3 : Int) (w0 w : World) (hI : IsS105 w0 w g s0_0 s0_1 s0_2) (hB : Below w0.heap.size w0 w) (h : spec_l1Once.f s0_0 s0_1 s0_2 a1 = some (r1, r2, r3)) :
  Calls Try.prog 120 #[.pointer (some ⟨g, 0, none⟩), .int .i64 a1] w fun e w' => e = .returned (.bool r1) ∧ IsS105 w0 w' g s0_0 r2 r3 ∧ Below w0.heap.size w0 w' ∧ KeepBut w w' g none := by
 have HI0 := Aside0.mk hI
 have HK := Aside0.mk (KeepBut.refl w g none)
 have HL := Aside0.mk hB.size
 clear hI
 have HW0 := Aside0.mk hB.size
 have HB := Aside0.mk hB
 clear hB
 have H : ((spec_l1Below.f s0_0 s0_1 s0_2 a1).bind fun bt347 => (some ((bt347.1 == 0), bt347.2.1, bt347.2.2))) = some (r1, r2, r3) := h
 clear h
 replace H := Option.bind_eq_some_iff.mp H
 obtain ⟨⟨t347, t348, t349⟩, A30, H⟩ := H
 replace H : (some ((t347 == 0), t348, t349)) = some (r1, r2, r3) := H
 have A3 := Aside0.mk A30
 clear A30
 simp only [Option.some.injEq, Prod.mk.injEq] at H
 obtain ⟨rfl, rfl, rfl⟩ := H
 go_enter Try.func120, Try.ntmps120
 go_wp2_with (first | ((with_reducible refine gate_callee (f := 102) rfl ?_); refine goesL_ (some 7) rfl rfl Try.func102 (by kernel_rfl) rfl #[.pointer (some ⟨g, 0, none⟩), .int .i64 a1] rfl (by (try simp only [List.map_toArray, List.map_cons, List.map_nil]); first | done | rfl | (simp only [List.length_drop, List.length_take]; rfl)) ?_; (with_reducible refine (spec_l1Below.calls g s0_0 s0_1 s0_2 a1 t347 t348 t349 w0 _ ?side1 ?side2 A3.out).mono ?_); (case side1 => repeat (first | (with_reducible first | exact HI0.out | apply IsS105.alloc | apply IsS105.drewN | apply IsS105.drew | apply IsS105.set_1 | apply IsS105.set_2) | exact HI0.out)); (case side2 => repeat (first | (with_reducible first | exact HB.out | apply below_alloc | apply pw_below_drewN | apply below_drew1 | refine below_set ?_ (IsS105.ge HI0.out)) | exact HB.out)); rintro e w4 ⟨rfl, hi, hb, hk⟩; refine ⟨_, rfl, ?_⟩; have n0_ := Aside0.mk (KeepBut.trans (by repeat (first | (with_reducible first | exact HK.out | apply KeepBut.set_ | apply keep_drewN | apply keep_drew | apply keep_alloc) | exact HK.out)) hk (.inl rfl)); have n1_ := Aside0.mk (hb); have n2_ := Aside0.mk (hi); clear HK; clear HB; clear HI0; have HK := n0_; have HB := n1_; have HI0 := n2_; clear n0_ n1_ n2_; (try clear hb); (try clear hb2); (try clear hk); (try clear hi)))
 go_ret
 exact ⟨by first | rfl | (simp [errW_none, errW_some] <;> rfl) | (simp [*, errW_none, errW_some] <;> rfl), by repeat (first | (with_reducible first | exact HI0.out | apply IsS105.alloc | apply IsS105.drewN | apply IsS105.drew | apply IsS105.set_1 | apply IsS105.set_2) | exact HI0.out), by repeat (first | (with_reducible first | exact HB.out | apply below_alloc | apply pw_below_drewN | apply below_drew1 | refine below_set ?_ (IsS105.ge HI0.out)) | exact HB.out), by repeat (first | (with_reducible first | exact HK.out | apply KeepBut.set_ | apply keep_drewN | apply keep_drew | apply keep_alloc) | exact HK.out)⟩
end Go.Proofs.Ytdlebbmmanjffaa.A
end
